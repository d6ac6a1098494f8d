/- A part of the proof: Walk12 Walk14 Walk19 Walk26 AbsFlat AbsName. -/
import Derived.Test.YtpgcmnabljandaaGreatDoorGa17
import Derived.Test.YtpgcmnabljandaaGreatDoorGa16
set_option linter.unusedVariables false
set_option linter.unusedSimpArgs false
set_option maxRecDepth 100000
section
namespace Go.Proofs.YtpgcmnabljandaaGreatDoor
open Go Go.Abs
set_option maxHeartbeats 8000000 in
theorem node151 (e:Ex) (hs:Fits e.name):Pure Tryz.prog GG 151 [.agg (encE e)] (.int .i64 (nodeE e)):=by
 refine Pure.vc mixed Tryz.func151 rfl (by kernel_rfl) ?_
 have hop:=operands228 e
 have hvar:=isVar229 e.name hs
 have hnam:=isName168 e.name
 rw [encE_eq] at hop ⊢
 obtain⟨op,n,s,a⟩:=e
 simp only [Ex.op_mk,Ex.n_mk,Ex.name_mk,Ex.args_mk] at hop hvar hnam hs ⊢
 by_cases c1:op<1
 · have x:nodeE (.mk op n s a)=1:=by simp [nodeE,c1]
   have o2:¬ op=2:=by omega
   have o3:¬ op=3:=by omega
   have o24:¬ op=24:=by omega
   rw [x]
   simp [c1,o2,o3,o24]
 by_cases c2:25<op
 · have x:nodeE (.mk op n s a)=1:=by simp [nodeE,c2]
   have o2:¬ op=2:=by omega
   have o3:¬ op=3:=by omega
   have o24:¬ op=24:=by omega
   rw [x]
   simp [c1,c2,o2,o3,o24]
 by_cases o1:op=1
 · subst o1
   by_cases n1:n<0
   · have x:nodeE (.mk 1 n s a)=1:=by simp [nodeE,n1]
     rw [x]
     simp [n1]
   by_cases n2:65535<n
   · have x:nodeE (.mk 1 n s a)=1:=by simp [nodeE,n2]
     rw [x]
     simp [n1,n2]
   by_cases hnm:s=[]
   · subst hnm
     simp [n1,n2]
     refine vcCall.call hop (by simp) ?_
     cases ho:operandsS (.mk 1 n [] a)
     · have x:nodeE (.mk 1 n [] a)=1:=by simp [nodeE,ho]
       rw [x]
       simp
     · have x:nodeE (.mk 1 n [] a)=0:=by simp [nodeE,ho];omega
       rw [x]
       simp
   · have x:nodeE (.mk 1 n s a)=1:=by simp [nodeE,hnm]
     have hie:s.isEmpty=false:=by simpa using hnm
     have hnb:(s == [])=false:=by simpa using hnm
     rw [x]
     simp [n1,n2,hnm,hie,hnb]
 by_cases n0:n=0
 · subst n0
   by_cases o2:op=2
   · subst o2
     simp
     refine vcCall.call hop (by simp) ?_
     cases ho:operandsS (.mk 2 0 s a)
     · have x:nodeE (.mk 2 0 s a)=1:=by simp [nodeE,ho]
       rw [x]
       simp
     · simp
       refine vcCall.call hvar (by simp) ?_
       cases hv:varS s
       · have x:nodeE (.mk 2 0 s a)=7:=by simp [nodeE,ho,hv]
         rw [x]
         simp
       · have x:nodeE (.mk 2 0 s a)=0:=by simp [nodeE,ho,hv]
         rw [x]
         simp
   by_cases o3:op=3
   · subst o3
     simp
     refine vcCall.call hop (by simp) ?_
     cases ho:operandsS (.mk 3 0 s a)
     · have x:nodeE (.mk 3 0 s a)=1:=by simp [nodeE,ho]
       rw [x]
       simp
     · simp
       refine vcCall.call hnam (by simp) ?_
       cases hv:nameS s
       · have x:nodeE (.mk 3 0 s a)=7:=by simp [nodeE,ho,hv]
         rw [x]
         simp
       · have x:nodeE (.mk 3 0 s a)=0:=by simp [nodeE,ho,hv]
         rw [x]
         simp
   by_cases o24:op=24
   · subst o24
     simp
     refine vcCall.call hop (by simp) ?_
     cases ho:operandsS (.mk 24 0 s a)
     · have x:nodeE (.mk 24 0 s a)=1:=by simp [nodeE,ho]
       rw [x]
       simp
     · simp
       refine vcCall.call hnam (by simp) ?_
       cases hv:nameS s
       · have x:nodeE (.mk 24 0 s a)=7:=by simp [nodeE,ho,hv]
         rw [x]
         simp
       · have x:nodeE (.mk 24 0 s a)=0:=by simp [nodeE,ho,hv]
         rw [x]
         simp
   have b1:(op==1)=false:=by simpa using o1
   have b1':(op != 1)=true:=by simpa using o1
   have b2:(op==2)=false:=by simpa using o2
   have b3:(op==3)=false:=by simpa using o3
   have b24:(op==24)=false:=by simpa using o24
   by_cases hnm:s=[]
   · subst hnm
     simp [c1,c2,o1,o2,o3,o24,b1,b1',b2,b3,b24]
     refine vcCall.call hop (by simp) ?_
     cases ho:operandsS (.mk op 0 [] a)
     · have x:nodeE (.mk op 0 [] a)=1:=by simp [nodeE,ho]
       rw [x]
       simp
     · have x:nodeE (.mk op 0 [] a)=0:=by simp [nodeE,ho,c1,c2,o1,o2,o3,o24]
       rw [x]
       simp [o2,o3,o24,b2,b3,b24]
   · have hie:s.isEmpty=false:=by simpa using hnm
     have x:nodeE (.mk op 0 s a)=1:=by simp [nodeE,c1,c2,o1,o2,o3,o24,hnm]
     rw [x]
     simp [c1,c2,o1,o2,o3,o24,b1,b1',b2,b3,b24,hnm,hie]
 · have x:nodeE (.mk op n s a)=1:=by simp [nodeE,o1,n0]
   rw [x]
   by_cases o2:op=2
   · subst o2;simp [n0]
   by_cases o3:op=3
   · subst o3;simp [n0]
   by_cases o24:op=24
   · subst o24;simp [n0]
   have b1:(op==1)=false:=by simpa using o1
   have b1':(op != 1)=true:=by simpa using o1
   have b2:(op==2)=false:=by simpa using o2
   have b3:(op==3)=false:=by simpa using o3
   have b24:(op==24)=false:=by simpa using o24
   have bn:(n != 0)=true:=by simpa using n0
   simp [c1,c2,o1,o2,o3,o24,n0,b1,b1',b2,b3,b24,bn]
theorem hgtL_append {l m:List Ex}:hgtL (l++m)=max (hgtL l) (hgtL m):=by
 induction l with
 | nil=>simp
 | cons a r ih=>simp only [List.cons_append,hgtL_cons,ih];omega
theorem depth152:∀ (e:Ex),Wen e→hgt e<1000000→Pure Tryz.prog GG 152 [.agg (encE e)] (.int .i64 (hgt e)):=by
 refine Ex.ind fun e ih hwe hh=>?_
 refine Pure.vc mixed Tryz.func152 rfl (by kernel_rfl) ?_
 have hl:=hwe.fits
 simp only [encE_eq e]
 simp
 refine vcLoop.intro (fun n env σ=>∃ i tl,i≤e.args.length∧n=e.args.length-i∧env 3=.int .i64 (hgtL (e.args.take i))∧env 7=.sl 4 (e.args.map encE) .none∧env 8=.int .i64 e.args.length∧env 9=.int .i64 i∧σ=⟨tl,[]⟩) e.args.length ⟨0,_,by simp,by simp,by simp,by simp,by simp,by simp,rfl⟩ ?_
 rintro n env σ ⟨i,tl,hi,rfl,h3,h7,h8,h9,rfl⟩
 cases hv:e.args[i]? with
 | some a=>
  obtain⟨hc,hv'⟩:=List.getElem?_eq_some_iff.1 hv
  have hm:=List.mem_of_getElem? hv
  have hlt:=hgt_arg hm
  have e1:hgtL (e.args.take (i+1))=max (hgtL (e.args.take i)) (hgt a):=by
   rw [List.take_add_one,hv,hgtL_append];simp
  simp [h3,h7,h8,h9,hc,hv',encE_eq a,List.set_append]
  rw [← encE_eq a]
  refine vcCall.call (ih a hm (hwe.arg hm) (by omega)) (by simp) ?_
  simp [max2A,h3,h7,h8,h9]
  refine⟨_,by omega,i+1,by omega,rfl,?_,wr (by omega) (by omega)⟩
  rw [e1]
  split<;>omega
 | none=>
  have hc:¬ i<e.args.length:=by simp at hv;omega
  have ht:e.args.take i=e.args:=List.take_of_length_le (by omega)
  rw [ht] at h3
  have hw:IntKind.i64.wrap ((hgtL e.args:Int)+1)=hgt e:=by rw [hgt_eq e] at hh ⊢;rw [wr (by omega) (by omega)];omega
  simp [h3,h7,h8,h9,hc,hw]
noncomputable def stV (_:Int) (e:Ex):Int×Bool:=(nodeE e,nodeE e==0)
def stN (n:Int) (_:Ex):Int×Bool:=(IntKind.i64.wrap (n+1),true)
theorem visits150 (c:List AV) (m:Int→Nat):Visits stV (fun s=>[.cells c,.cells [.int .i64 s]]) (fun _=>[]) 150 [.ptr 1 0] m:=by
 intro s tail e hwe _
 refine ACall.vc mixed Tryz.func150 rfl (by kernel_rfl) ?_
 simp only [encE_eq e]
 simp
 rw [← encE_eq e]
 refine vcCall.call (node151 e hwe.nm) (by simp) ?_
 simp [stV]
theorem visits230 (c:List AV) (m:Int→Nat):Visits stN (fun s=>[.cells c,.cells [.int .i64 s]]) (fun _=>[]) 230 [.ptr 1 0] m:=by
 intro s tail e hwe _
 refine ACall.vc mixed Tryz.func230 rfl (by kernel_rfl) ?_
 simp only [encE_eq e]
 simp [stN]
theorem size153 (e:Ex) (hwe:Wen e):Pure Tryz.prog GG 153 [.agg (encE e)] (.int .i64 (sizeS e)):=by
 refine Pure.vc mixed Tryz.func153 rfl (by kernel_rfl) ?_
 have hx:(runW stN 0 (pre e)).1=sizeS e:=by
  rw [runW_true (fun s e=>rfl)]
  have:=fold_count (n:=0) (pre e)
  simp only [Int.zero_add] at this
  rw [sizeS,← this]
  simp [stN,IntKind.wrap,IntKind.bits,IntKind.signed]
 simp only [encE_eq e]
 simp
 rw [← encE_eq e]
 refine ACall.imp (walk149 (c:=2) (hd:=fun s=>[.cells (encE e),.cells [.int .i64 s]]) (T:=fun _=>[]) (m:=fun _=>(pre e).length) (fun _=>rfl) (fun _ _=>by omega) (visits230 _ _) e hwe 0 (Nat.le_refl _) []) ?_
 rintro r σ' ⟨t,rfl⟩
 rw [hx]
 simp
theorem first_pre (e:Ex):(runW stV 0 (pre e)).1=firstE nodeE (pre e):=by
 have:=runW_first (f:=nodeE) 0 (pre e)
 rw [if_neg (by rw [pre_eq];simp)] at this
 exact this
theorem valid88 (e:Ex) (hwe:Wen e) (hh:hgt e<1000000):Pure Tryz.prog GG 88 [.agg (encE e)] (.int .i64 (validE e)):=by
 refine Pure.vc mixed Tryz.func88 rfl (by kernel_rfl) ?_
 simp only [encE_eq e]
 simp
 rw [← encE_eq e]
 refine ACall.imp (walk149 (c:=2) (hd:=fun s=>[.cells (encE e),.cells [.int .i64 s]]) (T:=fun _=>[]) (m:=fun _=>(pre e).length) (fun _=>rfl) (fun _ _=>by omega) (visits150 _ _) e hwe 0 (Nat.le_refl _) []) ?_
 rintro r σ' ⟨t,rfl⟩
 rw [first_pre]
 by_cases h0:firstE nodeE (pre e)=0
 · rw [h0]
   simp [encE_eq e]
   rw [← encE_eq e]
   refine vcCall.call (depth152 e hwe hh) (by simp) ?_
   by_cases h24:24<hgt e
   · have h24':(24:Int)<hgt e:=by omega
     have x:validE e=2:=by unfold validE;rw [if_pos ⟨h0,.inl h24⟩]
     rw [x]
     simp [h24']
   · have h24':¬ (24:Int)<hgt e:=by omega
     simp [h24',encE_eq e]
     rw [← encE_eq e]
     refine vcCall.call (size153 e hwe) (by simp) ?_
     by_cases h4:400<sizeS e
     · have x:validE e=2:=by unfold validE;rw [if_pos ⟨h0,.inr h4⟩]
       rw [x]
       simp [h4]
     · have x:validE e=0:=by unfold validE;rw [if_neg (fun h=>by rcases h.2 with h | h;exact h24 h;exact h4 h),h0]
       rw [x]
       simp [h4]
 · have x:validE e=firstE nodeE (pre e):=by unfold validE;rw [if_neg (fun h=>h0 h.1)]
   rw [x]
   have hb:(firstE nodeE (pre e)==0)=false:=by simpa using h0
   simp [h0,hb]
def stM (ops:List Int) (s:List Str) (e:Ex):List Str×Bool:=(addN ops s e,true)
def outA (s:List Str):AV:=match s with
 | []=>.sl 0 [] .nil
 | a::r=>.sl 1 ((a::r).map encStr) (.chain 0 (r.length+1))
def outT (s:List Str):List (Option Nat):=match s with
 | []=>[]
 | _::r=>[some (r.length+1)]
theorem any_beq' {α:Type} [BEq α] (l:List α) (a:α):(l.any fun v=>a==v)=l.contains a:=by rw [List.any_beq]
theorem visits263 (c:List AV) (ops:List Int) (ho:Fits ops):Visits (stM ops) (fun s=>[.cells c,.cells [.sl 1 (ops.map encInt) .none],.cells [outA s]]) outT 263 [.ptr 1 0,.ptr 2 0] (fun s=>1000000-s.length):=by
 intro s tail e hwe hm
 refine ACall.vc mixed Tryz.func263 rfl (by kernel_rfl) ?_
 simp only [encE_eq e]
 simp
 refine vcCall.call (contains264 GG ops e.op ho) (by simp) ?_
 rw [any_beq']
 cases hc:ops.contains e.op
 · have x:addN ops s e=s:=by simp only [addN,hc,Bool.false_and];rfl
   simp [stM,x]
 · cases s with
   | nil=>
    simp [outA]
    refine vcCall.less (contains101 GG [] e.name (by simp)) (by simp) (by simp [Leq]) ?_
    have x:addN ops [] e=[e.name]:=by simp only [addN,hc];rfl
    simp [stM,x,outT,outA,appendA,buildSliceA,rowsFill,rowsOf]
   | cons a r=>
    simp [outA]
    refine vcCall.pure (contains101 GG (a::r) e.name (by simp at hm ⊢;omega)) (by simp) (by simp) ?_
    rw [any_beq']
    cases hn:(a::r).contains e.name
    · have x:addN ops (a::r) e=a::(r++[e.name]):=by simp only [addN,hc,hn];rfl
      have hb:r.length≤1073741822:=by simp at hm;omega
      simp [stM,x,outT,outA,appendA,buildSliceA,rowsFill,rowsOf,hb]
    · have x:addN ops (a::r) e=a::r:=by simp only [addN,hc,hn];rfl
      simp [stM,x,outT,outA]
theorem fold_stM {ops:List Int}:∀ (l:List Ex) (s:List Str),l.foldl (fun s e=>(stM ops s e).1) s=l.foldl (addN ops) s
 | [],s=>rfl
 | e::r,s=>by rw [List.foldl_cons,List.foldl_cons];exact fold_stM r _
theorem addN_length {ops:List Int} {s:List Str} {e:Ex}:(addN ops s e).length≤s.length+1:=by
 unfold addN;split<;>simp
theorem names198 (e:Ex) (hwe:Wen e) (ops:List Int) (ho:Fits ops) (hsz:(pre e).length≤100000):Pure Tryz.prog GG 198 [.agg (encE e),.sl 1 (ops.map encInt) .none] (.sl 1 ((namesS ops e).map encStr) .none):=by
 refine Pure.vc mixed Tryz.func198 rfl (by kernel_rfl) ?_
 simp only [encE_eq e]
 simp
 rw [← encE_eq e]
 refine ACall.imp (walk149 (c:=3) (hd:=fun s=>[.cells (encE e),.cells [.sl 1 (ops.map encInt) .none],.cells [outA s]]) (T:=outT) (m:=fun s=>1000000-s.length) (fun _=>rfl) (fun s x=>by have:=addN_length (ops:=ops) (s:=s) (e:=x);simp only [stM];omega) (visits263 _ ops ho) e hwe [] (by simp;omega) []) ?_
 rintro r σ' ⟨t,rfl⟩
 rw [runW_true (fun s e=>rfl),fold_stM]
 have hn:(pre e).foldl (addN ops) []=namesS ops e:=rfl
 rw [hn]
 cases hs:namesS ops e with
 | nil=>simp [outA,Leq]
 | cons a r=>simp [outA,Leq,hs]
theorem arrays128 (e:Ex) (hwe:Wen e) (hsz:(pre e).length≤100000):Pure Tryz.prog GG 128 [.agg (encE e)] (.sl 1 ((namesS [3,24] e).map encStr) .none):=by
 refine Pure.vc mixed Tryz.func128 rfl (by kernel_rfl) ?_
 simp only [encE_eq e]
 simp [buildSliceA,rowsFill]
 rw [← encE_eq e]
 refine vcCall.less (names198 e hwe [3,24] (by decide) hsz) (by simp) (by simp [Leq]) ?_
 simp [Leq]
theorem names130 (e:Ex) (hwe:Wen e) (hsz:(pre e).length≤100000):Pure Tryz.prog GG 130 [.agg (encE e)] (.sl 1 ((namesS [2] e).map encStr) .none):=by
 refine Pure.vc mixed Tryz.func130 rfl (by kernel_rfl) ?_
 simp only [encE_eq e]
 simp [buildSliceA,rowsFill]
 rw [← encE_eq e]
 refine vcCall.less (names198 e hwe [2] (by decide) hsz) (by simp) (by simp [Leq]) ?_
 simp [Leq]
theorem take_succ_all' {α:Type} {p:α→Prop} {l:List α} {i:Nat} {v:α} (h:l[i]?=some v) (hz:∀ a∈l.take i,p a) (hv:p v):∀ a∈l.take (i+1),p a:=by
 intro a ha
 rw [List.take_add_one,h] at ha
 rcases List.mem_append.1 ha with ha|ha
 · exact hz a ha
 · simp at ha;rw [ha];exact hv
theorem nodes84:∀ (e:Ex),Wen e→∀ (d:Nat),d≤30→Pure Tryz.prog GG 84 [.agg (encE e),.int .i64 d] (.int .i64 (nodesS e d)):=by
 refine Ex.ind fun e ih hwe d hd=>?_
 refine Pure.vc mixed Tryz.func84 rfl (by kernel_rfl) ?_
 have hl:=hwe.fits
 simp only [encE_eq e]
 simp
 refine vcLoop.intro (fun q env σ=>∃ i n,i≤e.args.length∧q=e.args.length-i∧env 1=.int .i64 d∧env 2=.ptr 0 0∧env 5=.int .i64 n∧env 6=.int .i64 i∧σ=⟨[.cells (encE e)],[]⟩∧nodesS e d=nodesL (e.args.drop i) d n) e.args.length ⟨0,1,by simp,by simp,by simp,by simp,by simp,by simp,by rw [encE_eq e],by rw [nodesS_eq];simp⟩ ?_
 rintro q env σ ⟨i,n,hi,rfl,h1,h2,h5,h6,rfl,hn⟩
 cases hv:e.args[i]? with
 | none=>
  have hc:¬ i<e.args.length:=by simp at hv;omega
  have hd0:e.args.drop i=[]:=by simp;omega
  rw [hd0,nodesL_nil] at hn
  rw [hn]
  simp [h1,h2,h5,h6,encE_eq e,hc]
 | some a=>
  obtain⟨hc,hv'⟩:=List.getElem?_eq_some_iff.1 hv
  have hm:=List.mem_of_getElem? hv
  rw [drop_cons hv,nodesL_cons] at hn
  by_cases c1:n<100
  · by_cases c2:(d:Int)<30
    · have c2':d<30:=by omega
      rw [if_pos ⟨c1,c2⟩] at hn
      have hw:IntKind.i64.wrap ((d:Int)+1)=((d+1:Nat):Int):=by rw [wr (by omega) (by omega)];omega
      simp [h1,h2,h5,h6,encE_eq e,hc,c1,c2,c2',hv',encE_eq a,hw]
      rw [← encE_eq a]
      refine vcCall.call (ih a hm (hwe.arg hm) (d+1) (by omega)) (by simp) ?_
      rw [hw] at hn
      simp [h1,h2,h5,h6]
      exact⟨_,by omega,i+1,by omega,rfl,wr (by omega) (by omega),by simpa using hn⟩
    · have c2':¬ d<30:=by omega
      rw [if_neg (fun h=>c2 h.2)] at hn
      rw [hn]
      simp [h1,h2,h5,h6,encE_eq e,hc,c1,c2,c2']
  · rw [if_neg (fun h=>c1 h.1)] at hn
    rw [hn]
    simp [h1,h2,h5,h6,encE_eq e,hc,c1]
theorem brief29:∀ (e:Ex),Wen e→∀ (d:Nat),d≤26→Pure Tryz.prog GG 29 [.agg (encE e),.int .i64 d] (.bool (briefS e d)):=by
 refine Ex.ind fun e ih hwe d hd=>?_
 refine Pure.vc mixed Tryz.func29 rfl (by kernel_rfl) ?_
 have hl:=hwe.fits
 have hB:=briefS_eq e d
 by_cases c1:25<d
 · have c1':(25:Int)<d:=by omega
   rw [hB,if_pos (.inl c1)]
   simp only [encE_eq e]
   simp [c1']
 · have c1':¬ (25:Int)<d:=by omega
   have hw:IntKind.i64.wrap ((d:Int)+1)=((d+1:Nat):Int):=by rw [wr (by omega) (by omega)];omega
   by_cases c2:d=0
   · subst c2
     simp only [encE_eq e]
     simp
     rw [← encE_eq e]
     refine vcCall.call (nodes84 e hwe 0 (by omega)) (by simp) ?_
     by_cases c3:60<nodesS e 0
     · rw [hB,if_pos (.inr ⟨rfl,c3⟩)]
       simp [c3]
     · rw [if_neg (fun h=>by rcases h with h | h;omega;exact c3 h.2)] at hB
       simp [c3]
       rw [hB,briefL_all]
       refine vcLoop.intro (fun q env σ=>∃ i,i≤e.args.length∧q=e.args.length-i∧env 1=.int .i64 0∧env 2=.ptr 0 0∧env 5=.int .i64 i∧σ=⟨[.cells (encE e)],[]⟩∧∀ a∈e.args.take i,briefS a 1=true) e.args.length ⟨0,by simp,by simp,by simp,by simp,by simp,rfl,by simp⟩ ?_
       rintro q env σ ⟨i,hi,rfl,h1,h2,h5,rfl,hall⟩
       cases hv:e.args[i]? with
       | none=>
        have hc:¬ i<e.args.length:=by simp at hv;omega
        have ht:e.args.take i=e.args:=List.take_of_length_le (by omega)
        rw [ht] at hall
        rw [List.all_eq_true.2 hall]
        simp [h1,h2,h5,encE_eq e,hc]
       | some a=>
        obtain⟨hc,hv'⟩:=List.getElem?_eq_some_iff.1 hv
        have hm:=List.mem_of_getElem? hv
        have w1:IntKind.i64.wrap 1=1:=by decide
        simp [h1,h2,h5,encE_eq e,hc,hv',encE_eq a,w1]
        rw [← encE_eq a]
        refine vcCall.call (ih a hm (hwe.arg hm) 1 (by omega)) (by simp) ?_
        cases ha:briefS a 1
        · have:(e.args.all fun x=>briefS x 1)=false:=by
           rw [Bool.eq_false_iff]
           intro h
           rw [List.all_eq_true.1 h a hm] at ha;cases ha
          simp [this]
        · simp [h1,h2,h5]
          exact⟨_,by omega,i+1,by omega,rfl,wr (by omega) (by omega),take_succ_all' hv hall ha⟩
   · have c2':¬ (d:Int)=0:=by omega
     rw [if_neg (fun h=>by rcases h with h | h;omega;exact c2 h.1)] at hB
     simp only [encE_eq e]
     simp [c1',c2,c2']
     rw [hB,briefL_all]
     refine vcLoop.intro (fun q env σ=>∃ i,i≤e.args.length∧q=e.args.length-i∧env 1=.int .i64 d∧env 2=.ptr 0 0∧env 5=.int .i64 i∧σ=⟨[.cells (encE e)],[]⟩∧∀ a∈e.args.take i,briefS a (d+1)=true) e.args.length ⟨0,by simp,by simp,by simp,by simp,by simp,by rw [encE_eq e],by simp⟩ ?_
     rintro q env σ ⟨i,hi,rfl,h1,h2,h5,rfl,hall⟩
     cases hv:e.args[i]? with
     | none=>
      have hc:¬ i<e.args.length:=by simp at hv;omega
      have ht:e.args.take i=e.args:=List.take_of_length_le (by omega)
      rw [ht] at hall
      rw [List.all_eq_true.2 hall]
      simp [h1,h2,h5,encE_eq e,hc]
     | some a=>
      obtain⟨hc,hv'⟩:=List.getElem?_eq_some_iff.1 hv
      have hm:=List.mem_of_getElem? hv
      simp [h1,h2,h5,encE_eq e,hc,hv',encE_eq a,hw]
      rw [← encE_eq a]
      refine vcCall.call (ih a hm (hwe.arg hm) (d+1) (by omega)) (by simp) ?_
      cases ha:briefS a (d+1)
      · have:(e.args.all fun x=>briefS x (d+1))=false:=by
         rw [Bool.eq_false_iff]
         intro h
         rw [List.all_eq_true.1 h a hm] at ha;cases ha
        simp [this]
      · simp [h1,h2,h5]
        exact⟨_,by omega,i+1,by omega,rfl,wr (by omega) (by omega),take_succ_all' hv hall ha⟩
def topF (f:Fld):Int:=if f.mode=0 then 2 ^ f.width.toNat-1 else 0
def fieldE (f:Fld):Int :=
 if nameS f.name=false then 7
 else if f.width<1∨8<f.width∨f.size<0∨8<f.size then 1
 else if f.mode≠0∧f.mode≠1∧f.mode≠2 then 1
 else if f.size≠0∧f.mode=2 then 1
 else if f.init<0∨topF f<f.init then 1
 else 0
def repAt {α:Type} (nm:α→Str) (l:List α) (i:Nat):Bool:=match l[i]? with
 | some x=>(l.take i).any fun y=>nm x==nm y
 | none=>false
def repS {α:Type} (nm:α→Str) (l:List α):Bool:=(List.range l.length).any (repAt nm l)
def clsE (c:Cls):Int :=
 if nameS c.name=false∨(c.parent≠[]∧nameS c.parent=false) then 7
 else if 16<c.fields.length∨16<c.blocks.length then 2
 else if firstE fieldE c.fields≠0 then firstE fieldE c.fields
 else if c.blocks.any (fun b=>!nameS b.name)=true then 7
 else if repS Fld.name c.fields=true∨repS Blc.name c.blocks=true then 8
 else 0
def zCls:Cls:=⟨[],[],[],[]⟩
def findC (src:List Cls) (name:Str):Option Cls:=src.find? fun c=>c.name==name
def findD (src:List Cls) (name:Str):Cls:=(findC src name).getD zCls
def namesE (src:List Cls):Int :=
 if repS Cls.name src=true then 8
 else if src.any (fun c=>!decide (c.parent=[])&&(findC src c.parent).isNone)=true then 7
 else 0
def ancS (src:List Cls):Nat→Cls→Option (List Cls)
 | 0,c=>if c.parent=[] then some [c] else none
 | f+1,c=>if c.parent=[] then some [c] else (ancS src f (findD src c.parent)).map (c::·)
def putB (l:List Blc) (b:Blc):List Blc :=
 if 0≤findI (fun y:Blc=>y.name==b.name) l 0 then l.set (findI (fun y:Blc=>y.name==b.name) l 0).toNat b else l++[b]
def clashB (l m:List Fld):Bool:=m.any fun x=>l.any fun y=>y.name==x.name
def extS (c:Cls) (s:Cls×Bool):Cls×Bool:=(⟨c.name,s.1.parent,s.1.fields++c.fields,c.blocks.foldl putB s.1.blocks⟩,s.2||clashB s.1.fields c.fields)
def flatS (line:List Cls):Cls×Bool:=line.foldr extS (zCls,false)
def largeB (c:Cls):Bool:=decide (16<c.fields.length)||decide (16<c.blocks.length)
def lineD (src:List Cls) (c:Cls):List Cls:=(ancS src src.length c).getD []
def checkS (src:List Cls):Int :=
 if 32<src.length then 2
 else if firstE clsE src≠0 then firstE clsE src
 else if namesE src≠0 then namesE src
 else if src.any (fun c=>(ancS src src.length c).isNone)=true then 10
 else if src.any (fun c=>(flatS (lineD src c)).2)=true then 8
 else if src.any (fun c=>largeB (flatS (lineD src c)).1)=true then 2
 else 0
def lineE (src:List Cls) (name:Str):Int:=if checkS src≠0 then checkS src else if (findC src name).isNone=true then 12 else 0
def lineS (src:List Cls) (name:Str):List Cls:=if lineE src name≠0 then [] else lineD src (findD src name)
def flattenS (src:List Cls) (name:Str):Cls:=if lineE src name≠0 then zCls else (flatS (lineS src name)).1
def varsF (f:Fld):List Var:=(if f.size=0 then [⟨f.name,f.width,f.mode,f.init⟩] else [])++(List.range f.size.toNat).map fun i=>⟨elemS f.name i,f.width,f.mode,f.init⟩
def varsC (c:Cls):List Var:=if clsE c≠0 then [] else c.fields.flatMap varsF
theorem repS_nodup {α:Type} {nm:α→Str} {l:List α} (h:repS nm l=false):(l.map nm).Nodup:=by
 unfold repS at h
 rw [List.any_eq_false] at h
 rw [List.Nodup,List.pairwise_iff_getElem]
 intro i j hi hj hij e
 have hj':j<l.length:=by simpa using hj
 have hi':i<l.length:=by simpa using hi
 refine h j (List.mem_range.2 hj') ?_
 unfold repAt
 rw [List.getElem?_eq_getElem hj',List.any_eq_true]
 refine⟨l[i],?_,?_⟩
 · rw [List.mem_take_iff_getElem]
   exact⟨i,by omega,rfl⟩
 · simp only [List.getElem_map] at e
   simp [e]
structure ClsOk (c:Cls):Prop where
 name:nameS c.name=true
 parent:c.parent=[]∨nameS c.parent=true
 nf:c.fields.length≤16
 nb:c.blocks.length≤16
 fields:∀ f∈c.fields,fieldE f=0
 blocks:∀ b∈c.blocks,nameS b.name=true
 fnd:(c.fields.map Fld.name).Nodup
 bnd:(c.blocks.map Blc.name).Nodup
theorem clsE_zero {c:Cls} (h:clsE c=0):ClsOk c:=by
 unfold clsE at h
 split at h
 · cases h
 rename_i h1
 split at h
 · cases h
 rename_i h2
 split at h
 · rename_i h3;exact absurd h h3
 rename_i h3
 split at h
 · cases h
 rename_i h4
 split at h
 · cases h
 rename_i h5
 refine⟨by simpa using fun e=>h1 (.inl e),?_,by omega,by omega,firstE_zero.1 (Classical.not_not.1 h3),?_,repS_nodup ?_,repS_nodup ?_⟩
 · by_cases hp:c.parent=[]
   · exact .inl hp
   · right
     cases e:nameS c.parent with
     | true=>rfl
     | false=>exact absurd (.inr ⟨hp,e⟩) h1
 · intro b hb
   cases e:nameS b.name with
   | true=>rfl
   | false=>exact absurd (List.any_eq_true.2 ⟨b,hb,by simp [e]⟩) h4
 · cases e:repS Fld.name c.fields with
   | false=>rfl
   | true=>exact absurd (.inl e) h5
 · cases e:repS Blc.name c.blocks with
   | false=>rfl
   | true=>exact absurd (.inr e) h5
structure FldOk (f:Fld):Prop where
 name:nameS f.name=true
 w1:1≤f.width
 w8:f.width≤8
 s0:0≤f.size
 s8:f.size≤8
 mode:f.mode=0∨f.mode=1∨f.mode=2
 cyc:f.mode=2→f.size=0
 i0:0≤f.init
 i1:f.init≤topF f
theorem fieldE_zero {f:Fld} (h:fieldE f=0):FldOk f:=by
 unfold fieldE at h
 split at h
 · cases h
 rename_i h1
 split at h
 · cases h
 rename_i h2
 split at h
 · cases h
 rename_i h3
 split at h
 · cases h
 rename_i h4
 split at h
 · cases h
 rename_i h5
 exact⟨by simpa using h1,by omega,by omega,by omega,by omega,by omega,by omega,by omega,by omega⟩
theorem ancS_len {src:List Cls}:∀ {f:Nat} {c:Cls} {l:List Cls},ancS src f c=some l→1≤l.length∧l.length≤f+1
 | 0,c,l,h=>by
  simp only [ancS] at h
  split at h
  · cases h;simp
  · cases h
 | f+1,c,l,h=>by
  simp only [ancS] at h
  split at h
  · cases h;simp
  · obtain⟨m,hm,rfl⟩:=Option.map_eq_some_iff.1 h
    have:=ancS_len hm
    simp;omega
theorem findD_mem {src:List Cls} {name:Str}:findD src name∈src∨findD src name=zCls:=by
 unfold findD
 cases h:findC src name with
 | none=>exact .inr rfl
 | some c=>exact .inl (List.mem_of_find?_eq_some h)
theorem ancS_mem {src:List Cls}:∀ {f:Nat} {c:Cls} {l:List Cls},ancS src f c=some l→∀ x∈l,x=c∨x∈src∨x=zCls
 | 0,c,l,h,x,hx=>by
  simp only [ancS] at h
  split at h
  · cases h;simp at hx;exact .inl hx
  · cases h
 | f+1,c,l,h,x,hx=>by
  simp only [ancS] at h
  split at h
  · cases h;simp at hx;exact .inl hx
  · obtain⟨m,hm,rfl⟩:=Option.map_eq_some_iff.1 h
    rcases List.mem_cons.1 hx with rfl|hx
    · exact .inl rfl
    · rcases ancS_mem hm x hx with rfl|h
      · exact .inr findD_mem
      · exact .inr h
theorem findI_range {α:Type} {p:α→Bool}:∀ {l:List α} {i:Int},0≤i→0≤findI p l i→i≤findI p l i∧findI p l i<i+l.length
 | [],i,_,h=>by simp [findI] at h
 | v::r,i,hi,h=>by
  simp only [findI,List.length_cons] at h ⊢
  split
  · omega
  · rename_i hp
    rw [if_neg hp] at h
    have:=findI_range (l:=r) (i:=i+1) (by omega) h
    omega
theorem putB_len {l:List Blc} {b:Blc}:(putB l b).length≤l.length+1:=by
 unfold putB
 split<;>simp
theorem foldB_len:∀ {m:List Blc} {l:List Blc},(m.foldl putB l).length≤l.length+m.length
 | [],l=>by simp
 | b::r,l=>by
  have:=foldB_len (m:=r) (l:=putB l b)
  have:=putB_len (l:=l) (b:=b)
  simp only [List.foldl_cons,List.length_cons];omega
theorem putB_mem {l:List Blc} {b x:Blc} (h:x∈putB l b):x∈l∨x=b:=by
 unfold putB at h
 split at h
 · rcases List.mem_or_eq_of_mem_set h with h|h
   · exact .inl h
   · exact .inr h
 · simpa using h
theorem foldB_mem:∀ {m:List Blc} {l:List Blc} {x:Blc},x∈m.foldl putB l→x∈l∨x∈m
 | [],l,x,h=>.inl h
 | b::r,l,x,h=>by
  rcases foldB_mem (m:=r) h with h|h
  · rcases putB_mem h with h|rfl
    · exact .inl h
    · exact .inr (by simp)
  · exact .inr (by simp [h])
theorem flatS_len {k:Nat}:∀ {l:List Cls},(∀ c∈l,c.fields.length≤k∧c.blocks.length≤k)→(flatS l).1.fields.length≤k*l.length∧(flatS l).1.blocks.length≤k*l.length
 | [],_=>by simp [flatS,zCls]
 | c::r,h=>by
  have ih:=flatS_len (l:=r) fun x hx=>h x (by simp [hx])
  have hc:=h c (by simp)
  have hb:=foldB_len (m:=c.blocks) (l:=(flatS r).1.blocks)
  have e:flatS (c::r)=extS c (flatS r):=rfl
  rw [e]
  simp only [extS,List.length_append,List.length_cons]
  rw [Nat.mul_succ]
  omega
theorem flatS_fields {l:List Cls} {f:Fld}:f∈(flatS l).1.fields→∃ c∈l,f∈c.fields:=by
 induction l with
 | nil=>simp [flatS,zCls]
 | cons c r ih=>
  intro h
  have e:flatS (c::r)=extS c (flatS r):=rfl
  rw [e] at h
  simp only [extS,List.mem_append] at h
  rcases h with h|h
  · obtain⟨d,h1,h2⟩:=ih h;exact⟨d,by simp [h1],h2⟩
  · exact⟨c,by simp,h⟩
theorem flatS_blocks {l:List Cls} {b:Blc}:b∈(flatS l).1.blocks→∃ c∈l,b∈c.blocks:=by
 induction l with
 | nil=>simp [flatS,zCls]
 | cons c r ih=>
  intro h
  have e:flatS (c::r)=extS c (flatS r):=rfl
  rw [e] at h
  simp only [extS] at h
  rcases foldB_mem h with h|h
  · obtain⟨d,h1,h2⟩:=ih h;exact⟨d,by simp [h1],h2⟩
  · exact⟨c,by simp,h⟩
theorem flatS_parent (l:List Cls):(flatS l).1.parent=[]:=by
 induction l with
 | nil=>rfl
 | cons c r ih=>exact ih
def idxS (l:List Var) (s:Str):Int:=findI (fun v=>v.name==s) l 0
def namedS1 (l:List Var) (s:Str):List Int:=if 0≤idxS l s then [idxS l s] else (List.range (sizeA l s)).map fun k=>idxS l (elemS s k)
def namedL (l:List Var) (names:List Str):List Int:=names.flatMap (namedS1 l)
def encIts (l:List It):List AV:=[.sl 12 (l.map encI) .none]
def onB (off:List Str) (b:Blc):Bool:=!off.contains b.name
def listsC (c:Cls) (off:List Str) (more:List It):List (List It):=((c.blocks.filter (onB off)).map Blc.items)++[more]
def dupD (d:List Dist) (i:Nat):Bool:=match d[i]? with
 | some x=>(d.take i).any fun y=>y.var==x.var
 | none=>false
def distribE (l:List Var) (d:List Dist):Int :=
 if (List.range d.length).any (dupD d)=true then 8 else if d.any (fun x=>!rndS l x.var)=true then 1 else 0
end Go.Proofs.YtpgcmnabljandaaGreatDoor
end
