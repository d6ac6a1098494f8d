import Derived.Test.YtkodonalmdmgpaaGreatDoorSv13
set_option maxRecDepth 100000
set_option linter.all false
set_option linter.defProp false
section
namespace Go.Proofs.YtkodonalmdmgpaaGreatDoor
open Go Go.Abs
theorem take_succ_all' {α:Type} {p:α→Prop} {l:List α} {i:Nat} {v:α} (h:l[i]?=some v) (hz:∀ a∈l.take i,p a) (hv:p v):∀ a∈l.take (i+1),p a:=by
 intro a ha
 rw [List.take_add_one,h] at ha
 rcases List.mem_append.1 ha with ha|ha
 · exact hz a ha
 · simp at ha;rw [ha];exact hv
theorem nodes84:∀ (e:Ex),Wen e→∀ (d:Nat),d≤30→Pure Tryz.prog GG 22 [.agg (encE e),.int .i64 d] (.int .i64 (nodesS e d)):=by
 refine Ex.ind fun e ih hwe d hd=>?_
 refine Pure.vc mixed Tryz.func22 rfl (by kernel_rfl) ?_
 have hl:=hwe.fits
 simp only [encE_eq e]
 simp
 refine vcLoop.intro (fun q env σ=>∃ i n,i≤e.args.length∧q=e.args.length-i∧env 1=.int .i64 d∧env 2=.ptr 0 0∧env 5=.int .i64 n∧env 6=.int .i64 i∧σ=⟨[.cells (encE e)],[]⟩∧nodesS e d=nodesL (e.args.drop i) d n) e.args.length ⟨0,1,by simp,by simp,by simp,by simp,by simp,by simp,by rw [encE_eq e],by rw [nodesS_eq];simp⟩ ?_
 rintro q env σ ⟨i,n,hi,rfl,h1,h2,h5,h6,rfl,hn⟩
 cases hv:e.args[i]? with
 | none=>
  have hc:¬ i<e.args.length:=by simp at hv;omega
  have hd0:e.args.drop i=[]:=by simp;omega
  rw [hd0,nodesL_nil] at hn
  rw [hn]
  simp [h1,h2,h5,h6,encE_eq e,hc]
 | some a=>
  obtain⟨hc,hv'⟩:=List.getElem?_eq_some_iff.1 hv
  have hm:=List.mem_of_getElem? hv
  rw [drop_cons hv,nodesL_cons] at hn
  by_cases c1:n<100
  · by_cases c2:(d:Int)<30
    · have c2':d<30:=by omega
      rw [if_pos ⟨c1,c2⟩] at hn
      have hw:IntKind.i64.wrap ((d:Int)+1)=((d+1:Nat):Int):=by rw [wr (by omega) (by omega)];omega
      simp [h1,h2,h5,h6,encE_eq e,hc,c1,c2,c2',hv',encE_eq a,hw]
      rw [← encE_eq a]
      refine vcCall.call (ih a hm (hwe.arg hm) (d+1) (by omega)) (by simp) ?_
      rw [hw] at hn
      simp [h1,h2,h5,h6]
      exact⟨_,by omega,i+1,by omega,rfl,wr (by omega) (by omega),by simpa using hn⟩
    · have c2':¬ d<30:=by omega
      rw [if_neg (fun h=>c2 h.2)] at hn
      rw [hn]
      simp [h1,h2,h5,h6,encE_eq e,hc,c1,c2,c2']
  · rw [if_neg (fun h=>c1 h.1)] at hn
    rw [hn]
    simp [h1,h2,h5,h6,encE_eq e,hc,c1]
theorem brief29:∀ (e:Ex),Wen e→∀ (d:Nat),d≤26→Pure Tryz.prog GG 13 [.agg (encE e),.int .i64 d] (.bool (briefS e d)):=by
 refine Ex.ind fun e ih hwe d hd=>?_
 refine Pure.vc mixed Tryz.func13 rfl (by kernel_rfl) ?_
 have hl:=hwe.fits
 have hB:=briefS_eq e d
 by_cases c1:25<d
 · have c1':(25:Int)<d:=by omega
   rw [hB,if_pos (.inl c1)]
   simp only [encE_eq e]
   simp [c1']
 · have c1':¬ (25:Int)<d:=by omega
   have hw:IntKind.i64.wrap ((d:Int)+1)=((d+1:Nat):Int):=by rw [wr (by omega) (by omega)];omega
   by_cases c2:d=0
   · subst c2
     simp only [encE_eq e]
     simp
     rw [← encE_eq e]
     refine vcCall.call (nodes84 e hwe 0 (by omega)) (by simp) ?_
     by_cases c3:60<nodesS e 0
     · rw [hB,if_pos (.inr ⟨rfl,c3⟩)]
       simp [c3]
     · rw [if_neg (fun h=>by rcases h with h | h;omega;exact c3 h.2)] at hB
       simp [c3]
       rw [hB,briefL_all]
       refine vcLoop.intro (fun q env σ=>∃ i,i≤e.args.length∧q=e.args.length-i∧env 1=.int .i64 0∧env 2=.ptr 0 0∧env 5=.int .i64 i∧σ=⟨[.cells (encE e)],[]⟩∧∀ a∈e.args.take i,briefS a 1=true) e.args.length ⟨0,by simp,by simp,by simp,by simp,by simp,rfl,by simp⟩ ?_
       rintro q env σ ⟨i,hi,rfl,h1,h2,h5,rfl,hall⟩
       cases hv:e.args[i]? with
       | none=>
        have hc:¬ i<e.args.length:=by simp at hv;omega
        have ht:e.args.take i=e.args:=List.take_of_length_le (by omega)
        rw [ht] at hall
        rw [List.all_eq_true.2 hall]
        simp [h1,h2,h5,encE_eq e,hc]
       | some a=>
        obtain⟨hc,hv'⟩:=List.getElem?_eq_some_iff.1 hv
        have hm:=List.mem_of_getElem? hv
        have w1:IntKind.i64.wrap 1=1:=by decide
        simp [h1,h2,h5,encE_eq e,hc,hv',encE_eq a,w1]
        rw [← encE_eq a]
        refine vcCall.call (ih a hm (hwe.arg hm) 1 (by omega)) (by simp) ?_
        cases ha:briefS a 1
        · have:(e.args.all fun x=>briefS x 1)=false:=by
           rw [Bool.eq_false_iff]
           intro h
           rw [List.all_eq_true.1 h a hm] at ha;cases ha
          simp [this]
        · simp [h1,h2,h5]
          exact⟨_,by omega,i+1,by omega,rfl,wr (by omega) (by omega),take_succ_all' hv hall ha⟩
   · have c2':¬ (d:Int)=0:=by omega
     rw [if_neg (fun h=>by rcases h with h | h;omega;exact c2 h.1)] at hB
     simp only [encE_eq e]
     simp [c1',c2,c2']
     rw [hB,briefL_all]
     refine vcLoop.intro (fun q env σ=>∃ i,i≤e.args.length∧q=e.args.length-i∧env 1=.int .i64 d∧env 2=.ptr 0 0∧env 5=.int .i64 i∧σ=⟨[.cells (encE e)],[]⟩∧∀ a∈e.args.take i,briefS a (d+1)=true) e.args.length ⟨0,by simp,by simp,by simp,by simp,by simp,by rw [encE_eq e],by simp⟩ ?_
     rintro q env σ ⟨i,hi,rfl,h1,h2,h5,rfl,hall⟩
     cases hv:e.args[i]? with
     | none=>
      have hc:¬ i<e.args.length:=by simp at hv;omega
      have ht:e.args.take i=e.args:=List.take_of_length_le (by omega)
      rw [ht] at hall
      rw [List.all_eq_true.2 hall]
      simp [h1,h2,h5,encE_eq e,hc]
     | some a=>
      obtain⟨hc,hv'⟩:=List.getElem?_eq_some_iff.1 hv
      have hm:=List.mem_of_getElem? hv
      simp [h1,h2,h5,encE_eq e,hc,hv',encE_eq a,hw]
      rw [← encE_eq a]
      refine vcCall.call (ih a hm (hwe.arg hm) (d+1) (by omega)) (by simp) ?_
      cases ha:briefS a (d+1)
      · have:(e.args.all fun x=>briefS x (d+1))=false:=by
         rw [Bool.eq_false_iff]
         intro h
         rw [List.all_eq_true.1 h a hm] at ha;cases ha
        simp [this]
      · simp [h1,h2,h5]
        exact⟨_,by omega,i+1,by omega,rfl,wr (by omega) (by omega),take_succ_all' hv hall ha⟩
end Go.Proofs.YtkodonalmdmgpaaGreatDoor
end
