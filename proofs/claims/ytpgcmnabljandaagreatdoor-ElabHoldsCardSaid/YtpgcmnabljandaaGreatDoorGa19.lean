/- A part of the proof: Walk6 Walk7. -/
import Derived.Test.YtpgcmnabljandaaGreatDoorGa16
import Derived.Test.YtpgcmnabljandaaGreatDoorGa17
set_option linter.unusedVariables false
set_option linter.unusedSimpArgs false
set_option maxRecDepth 100000
section
namespace Go.Proofs.YtpgcmnabljandaaGreatDoor
open Go Go.Abs
theorem findI_neg {α:Type} (p:α→Bool) (l:List α):decide (findI p l 0<0) = !l.any p:=by
 have h:=findI_ge (p:=p) (l:=l) (i:=0) (by omega)
 cases hb:l.any p
 · rw [hb] at h
   have:¬ 0≤findI p l 0:=fun e=>by have:=h.1 e;cases this
   simp;omega
 · rw [hb] at h
   have:=h.2 rfl
   simp;omega
theorem gapS_none {l:List Var} {name:Str} (h:elemO name=none):gapS l name=false:=by simp [gapS,h]
theorem gapS_zero {l:List Var} {name a:Str} (h:IsElem name a 0):gapS l name=false:=by simp [gapS,elemO_eq h]
theorem gapS_succ {l:List Var} {name a:Str} {i:Nat} (h:IsElem name a (i+1)):gapS l name = !hasV l (elemS a i):=by simp [gapS,elemO_eq h]
theorem gap126 (l:List Var) (name:Str) (hl:Fits l) (hs:Fits name) (hv:varS name=true):Pure Tryz.prog GG 126 [.sl 4 (l.map encVar) .none,.str name] (.bool (gapS l name)):=by
 refine Pure.vc mixed Tryz.func126 rfl (by kernel_rfl) ?_
 simp
 cases hc:name.contains 91
 · refine vcCall.call (cut196n GG name hs hc) rfl ?_
   rw [gapS_none (no_elem hc)]
   simp
 · refine vcCall.call (cut196 GG name hs hc) rfl ?_
   simp
   have hn:nameS name=false:=by
    cases e:nameS name
    · rfl
    · exact absurd (nameS_no91 e 91 (by simpa using hc)) (by simp)
   obtain⟨a,i,hi⟩:∃ a i,IsElem name a i:=by
    simp only [varS,hn,Bool.false_or,Option.isSome_iff_exists] at hv
    obtain⟨p,hp⟩:=hv
    exact⟨p.1,p.2,elemO_some.1 hp⟩
   have hh:=hi.has.2.1
   have hal:a.length≤1000:=by have:=name_len hi.2.1;omega
   rw [hh]
   refine vcLoop.intro (fun n env σ=>∃ j:Nat,1≤j∧j≤8∧n=8-j∧env 0=.sl 4 (l.map encVar) .none∧env 1=.str name∧env 5=.str a∧env 8=.int .i64 j∧σ=⟨[],[]⟩∧(i=0∨j≤i)) 7 ⟨1,by simp,by simp,by simp,by simp,by simp,by simp,by simp,rfl,by omega⟩ ?_
   rintro n env σ ⟨j,hj1,hj8,rfl,h0,h1,h5,h8,rfl,hj⟩
   by_cases hlt:j<8
   · have hlt':(j:Int)<8:=by omega
     simp [h0,h1,h5,h8,hlt']
     refine vcCall.call (element181 a j hlt hal) rfl ?_
     by_cases he:j=i
     · subst he
       rw [← hi.2.2]
       obtain⟨k,rfl⟩:∃ k,j=k+1:=⟨j-1,by omega⟩
       have hw:IntKind.i64.wrap (((k+1:Nat):Int)-1)=k:=by rw [wr (by omega) (by omega)];omega
       have hw':IntKind.i64.wrap (k:Int)=k:=wr (by omega) (by omega)
       have hw2:IntKind.i64.wrap ((k:Int)+1-1)=k:=by rw [wr (by omega) (by omega)];omega
       simp [h0,h1,h5,h8,hw,hw',hw2]
       refine vcCall.call (element181 a k (by omega) hal) rfl ?_
       refine vcCall.call (index GG l (elemS a k) hl) (by simp) ?_
       rw [gapS_succ hi]
       simp [findI_neg,hasV]
     · have hne:¬ name=elemS a j:=by
        intro e
        exact he (elemS_inj hlt hi.1 (e.symm.trans hi.2.2)).2
       simp [h0,h1,h5,h8,hne]
       refine⟨_,by omega,j+1,by omega,by omega,rfl,wr (by omega) (by omega),by omega⟩
   · have hlt':¬ (j:Int)<8:=by omega
     have hi0:i=0:=by have:=hi.1;omega
     subst hi0
     rw [gapS_zero hi]
     simp [h0,h1,h5,h8,hlt']
theorem vars125 (l:List Var) (v:Var) (hl:Fits l) (hs:Fits v.name) (hv:varS v.name=true):Pure Tryz.prog GG 125 [.agg (encVar v),.rptr [.sl 4 (l.map encVar) .none]] (.bool (gapS l v.name)):=by
 refine Pure.vc mixed Tryz.func125 rfl (by kernel_rfl) ?_
 simp
 refine vcCall.call (gap126 l v.name hl hs hv) (by simp) ?_
 simp
theorem shl1 {w:Int} (h1:1≤w) (h2:w≤8):IntKind.i64.wrap (2 ^ (min w.toNat 64))=2 ^ w.toNat:=by
 obtain⟨k,rfl⟩:=Int.eq_ofNat_of_zero_le (show 0≤w by omega)
 have:k=1∨k=2∨k=3∨k=4∨k=5∨k=6∨k=7∨k=8:=by omega
 rcases this with rfl|rfl|rfl|rfl|rfl|rfl|rfl|rfl<;>decide
theorem bitsV_take {l:List Var} {i:Nat} {v:Var} (h:l[i]?=some v):bitsV (l.take (i+1))=bitsV (l.take i)+(if v.mode≠0 then v.width else 0):=by
 rw [List.take_add_one,h]
 have:∀ (m n:List Var),bitsV (m++n)=bitsV m+bitsV n:=by
  intro m n
  induction m with
  | nil=>simp [bitsV]
  | cons a r ih=>simp only [List.cons_append,bitsV,ih];omega
 rw [this]
 simp [bitsV]
theorem varE_zero {v:Var} (h:varE v=0):varS v.name=true∧1≤v.width∧v.width≤8:=by
 unfold varE at h
 split at h
 · cases h
 · rename_i hn
   split at h
   · cases h
   · rename_i hc
     refine⟨by simpa using hn,?_,?_⟩
     · apply Classical.byContradiction;intro e;exact hc (.inl (by omega))
     · apply Classical.byContradiction;intro e;exact hc (.inr (.inl (by omega)))
theorem bitsV_bound {l:List Var} (h:∀ v∈l,1≤v.width∧v.width≤8):0≤bitsV l∧bitsV l≤8*l.length:=by
 induction l with
 | nil=>simp [bitsV]
 | cons a r ih=>
  have h1:=h a (by simp)
  have h2:=ih fun v hv=>h v (by simp [hv])
  simp only [bitsV,List.length_cons]
  split<;>omega
theorem findI_first {l:List Var} {i:Nat} {v:Var} (h:l[i]?=some v):(findI (fun x=>x.name==v.name) l 0=i)↔dupAt l i=false:=by
 have gen:∀ (l:List Var) (i:Nat) (k:Int),l[i]?=some v→((findI (fun x=>x.name==v.name) l k=k+i)↔(l.take i).any (fun x=>x.name==v.name)=false):=by
  intro l
  induction l with
  | nil=>intro i k h;simp at h
  | cons a r ih=>
   intro i k h
   cases i with
   | zero=>
    simp only [List.getElem?_cons_zero,Option.some.injEq] at h
    subst h
    simp [findI]
   | succ i=>
    simp only [List.getElem?_cons_succ] at h
    simp only [findI,List.take_succ_cons,List.any_cons]
    by_cases hn:a.name=v.name
    · simp [hn]
      omega
    · have hb:(a.name==v.name)=false:=by simpa using hn
      simp only [hb,Bool.false_eq_true,if_false,Bool.false_or]
      rw [← ih i (k+1) h]
      constructor<;>intro e<;>omega
 have:=gen l i 0 h
 simp only [Int.zero_add] at this
 rw [this]
 simp [dupAt,h,hasV]
theorem dupS_of {l:List Var} {i:Nat} (hi:i<l.length) (h:dupAt l i=true):dupS l=true:=by
 unfold dupS
 exact List.any_eq_true.2 ⟨i,List.mem_range.2 hi,h⟩
theorem dupS_no {l:List Var} (h:∀ i,i<l.length→dupAt l i=false):dupS l=false:=by
 unfold dupS
 rw [Bool.eq_false_iff]
 intro e
 obtain⟨i,h1,h2⟩:=List.any_eq_true.1 e
 rw [h i (List.mem_range.1 h1)] at h2;cases h2
theorem firstE_of {α:Type} {f:α→Int} {l:List α} {i:Nat} {v:α} (h:l[i]?=some v) (hz:∀ a∈l.take i,f a=0) (hv:f v≠0):firstE f l=f v:=by
 obtain⟨hc,hv'⟩:=List.getElem?_eq_some_iff.1 h
 have:l=l.take i++v::l.drop (i+1):=by
  conv=>lhs;rw [← List.take_append_drop i l,drop_cons h]
 rw [this,firstE_append,firstE_zero.2 hz]
 simp [firstE,hv]
theorem take_succ_all {α:Type} {p:α→Prop} {l:List α} {i:Nat} {v:α} (h:l[i]?=some v) (hz:∀ a∈l.take i,p a) (hv:p v):∀ a∈l.take (i+1),p a:=by
 intro a ha
 rw [List.take_add_one,h] at ha
 rcases List.mem_append.1 ha with ha|ha
 · exact hz a ha
 · simp at ha;rw [ha];exact hv
set_option maxHeartbeats 8000000 in
theorem vars62 (l:List Var) (hl:Fits l) (hs:∀ v∈l,Fits v.name):Pure Tryz.prog GG 62 [.sl 4 (l.map encVar) .none] (.int .i64 (varsS l)):=by
 refine Pure.vc mixed Tryz.func62 rfl (by kernel_rfl) ?_
 by_cases h16:16<l.length
 · have e:varsS l=2:=by simp [varsS,h16]
   have h16':(16:Int)<l.length:=by omega
   rw [e]
   simp [h16']
 · have h16':¬ (16:Int)<l.length:=by omega
   simp [h16']
   refine vcLoop.intro (fun n env σ=>∃ i tail,i≤l.length∧n=l.length-i∧env 1=.ptr 0 0∧env 11=.sl 4 (l.map encVar) .none∧env 12=.int .i64 l.length∧env 13=.int .i64 i∧σ=⟨.cells [.sl 4 (l.map encVar) .none]::tail,[]⟩∧∀ v∈l.take i,varE v=0) l.length ⟨0,[],by simp⟩ ?_
   rintro n env σ ⟨i,tail,hi,rfl,h1,h11,h12,h13,rfl,hz⟩
   cases hv:l[i]? with
   | some v=>
    obtain⟨hc,hv'⟩:=List.getElem?_eq_some_iff.1 hv
    have hm:=List.mem_of_getElem? hv
    have bad:varE v≠0→varsS l=varE v:=by
     intro hne
     have:=firstE_of hv hz hne
     simp [varsS,h16,this,hne]
    simp [h1,h11,h12,h13,hc,hv',List.set_append]
    refine vcCall.call (named123 v.name (hs v hm)) rfl ?_
    have next:varE v=0→∀ a∈l.take (i+1),varE a=0:=fun h=>take_succ_all hv hz h
    cases hn:varS v.name
    · have e:varE v=7:=by simp [varE,hn]
      simp [bad (by rw [e];decide),e]
    · by_cases c1:v.width<1
      · have e:varE v=1:=by simp [varE,hn,c1]
        simp [List.set_append,c1,bad (by rw [e];decide),e]
      · by_cases c2:8<v.width
        · have e:varE v=1:=by simp [varE,hn,c2]
          simp [List.set_append,c1,c2,bad (by rw [e];decide),e]
        · by_cases c3:v.mode<0
          · have e:varE v=1:=by simp [varE,hn,c3]
            simp [List.set_append,c1,c2,c3,bad (by rw [e];decide),e]
          · by_cases c4:2<v.mode
            · have e:varE v=1:=by simp [varE,hn,c4]
              simp [List.set_append,c1,c2,c3,c4,bad (by rw [e];decide),e]
            · by_cases c5:v.value<0
              · have e:varE v=1:=by simp [varE,hn,c5]
                simp [List.set_append,c1,c2,c3,c4,c5,bad (by rw [e];decide),e]
              · have c6:¬ v.width<0:=by omega
                have hsh:=shl1 (w:=v.width) (by omega) (by omega)
                by_cases c7:(2:Int) ^ v.width.toNat≤v.value
                · have e:varE v=1:=by simp [varE,hn,c7]
                  simp [List.set_append,c1,c2,c3,c4,c5,c6,hsh,c7,IntKind.bits,bad (by rw [e];decide),e]
                · by_cases m0:v.mode=0
                  · have e:varE v=0:=by simp [varE,hn,c1,c2,c3,c4,c5,c7,m0]
                    simp [List.set_append,c1,c2,c3,c4,c5,c6,hsh,c7,IntKind.bits,m0,h1,h11,h12,h13]
                    exact⟨_,by omega,i+1,by omega,rfl,wr (by omega) (by omega),next e⟩
                  · by_cases c8:v.value=0
                    · have hp:(0:Int)<2 ^ v.width.toNat:=Int.pow_pos (by omega)
                      have c9:¬ (2:Int) ^ v.width.toNat≤0:=by omega
                      have e:varE v=0:=by simp [varE,hn,c1,c2,c3,c4,c5,c8,hp]
                      simp [List.set_append,c1,c2,c3,c4,c5,c6,hsh,c7,IntKind.bits,m0,c8,c9,h1,h11,h12,h13]
                      exact⟨_,by omega,i+1,by omega,rfl,wr (by omega) (by omega),next e⟩
                    · have e:varE v=1:=by simp [varE,hn,m0,c8]
                      simp [List.set_append,c1,c2,c3,c4,c5,c6,hsh,c7,IntKind.bits,m0,c8,bad (by rw [e];decide),e]
   | none=>
    have hc:¬ i<l.length:=by simp at hv;omega
    have ht:l.take i=l:=List.take_of_length_le (by omega)
    rw [ht] at hz
    have hz0:=firstE_zero.2 hz
    simp [h1,h11,h12,h13,hc]
    have hw:∀ v∈l,varS v.name=true∧1≤v.width∧v.width≤8:=fun v hv=>varE_zero (hz v hv)
    refine vcLoop.intro (fun n env σ=>∃ i tail,i≤l.length∧n=l.length-i∧env 1=.ptr 0 0∧env 5=.int .i64 (bitsV (l.take i))∧env 63=.sl 4 (l.map encVar) .none∧env 64=.int .i64 l.length∧env 65=.int .i64 i∧σ=⟨.cells [.sl 4 (l.map encVar) .none]::tail,[]⟩∧∀ j,j<i→dupAt l j=false) l.length ⟨0,tail,by simp [h1,bitsV]⟩ ?_
    clear h1 h11 h12 h13
    rintro n env σ ⟨i,tail,hi,rfl,h1,h5,h63,h64,h65,rfl,hd⟩
    cases hv:l[i]? with
    | some v=>
     obtain⟨hc,hv'⟩:=List.getElem?_eq_some_iff.1 hv
     have hm:=List.mem_of_getElem? hv
     have hfi:=findI_first hv
     have hb:=bitsV_bound (l:=l.take i) fun v hv=>(hw v (List.mem_of_mem_take hv)).2
     have hbl:(l.take i).length≤16:=by simp;omega
     have next:dupAt l i=false→∀ j,j<i+1→dupAt l j=false:=fun h j hj=>by
      rcases Nat.lt_succ_iff_lt_or_eq.1 hj with hj|rfl
      · exact hd j hj
      · exact h
     simp [h1,h5,h63,h64,h65,hc,hv',List.set_append]
     refine vcCall.call (index GG l v.name hl) (by simp) ?_
     cases hdi:dupAt l i
     · rw [hfi.2 hdi]
       have hbt:=bitsV_take hv
       by_cases m0:v.mode=0
       · simp [List.set_append,m0,h1,h5,h63,h64,h65]
         refine⟨_,by omega,i+1,by omega,rfl,?_,wr (by omega) (by omega),next hdi⟩
         rw [hbt];simp [m0]
       · have hw2:=hw v hm
         have hwr:IntKind.i64.wrap (bitsV (l.take i)+v.width)=bitsV (l.take (i+1)):=by
          rw [hbt,if_pos m0]
          exact wr (by omega) (by omega)
         simp [List.set_append,m0,h1,h5,h63,h64,h65,hwr]
         refine⟨_,by omega,i+1,by omega,rfl,rfl,wr (by omega) (by omega),next hdi⟩
     · have hne:¬ findI (fun x=>x.name==v.name) l 0=i:=by
        intro e
        have:=hfi.1 e
        rw [hdi] at this;cases this
       have e:varsS l=8:=by simp [varsS,h16,hz0,dupS_of hc hdi]
       rw [e]
       simp [List.set_append,hne]
    | none=>
     have hc:¬ i<l.length:=by simp at hv;omega
     have ht:l.take i=l:=List.take_of_length_le (by omega)
     rw [ht] at h5
     have hnd:=dupS_no (l:=l) fun j hj=>hd j (by omega)
     simp [h1,h5,h63,h64,h65,hc]
     refine vcCall.lent (containsFuncVar GG l (fun v=>gapS l v.name) 125 [] [.rptr [.sl 4 (l.map encVar) .none]] hl rfl (by simp) fun v hv=>vars125 l v hl (hs v hv) (hw v hv).1) rfl ?_ ?_
     · simp [frz]
     · cases hg:l.any fun v=>gapS l v.name
       · by_cases hb:20<bitsV l
         · have e:varsS l=2:=by simp [varsS,h16,hz0,hnd,hg,hb]
           rw [e]
           simp [hb,h5]
         · have e:varsS l=0:=by simp only [varsS,h16,hz0,hnd,hg,hb];rfl
           rw [e]
           simp [hb,h5]
       · have e:varsS l=10:=by simp only [varsS,h16,hz0,hnd,hg];rfl
         rw [e]
         simp
end Go.Proofs.YtpgcmnabljandaaGreatDoor
end
