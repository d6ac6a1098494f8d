import Derived.Test.YtkodonalmdmgpaaGreatDoorSv13
set_option maxRecDepth 100000
set_option linter.all false
set_option linter.defProp false
section
namespace Go.Proofs.YtkodonalmdmgpaaGreatDoor
open Go Go.Abs
set_option maxHeartbeats 4000000 in
theorem arity289 (op:Int):Pure Tryz.prog GG 250 [.int .i64 op] (.int .i64 (arityS op)):=by
 refine Pure.vc mixed Tryz.func250 rfl (by kernel_rfl) ?_
 by_cases o1:op=1
 · subst o1;simp [arityS]
 by_cases o2:op=2
 · subst o2;simp [arityS]
 by_cases o24:op=24
 · subst o24;simp [arityS]
 by_cases o3:op=3
 · subst o3;simp [arityS]
 by_cases o4:op=4
 · subst o4;simp [arityS]
 by_cases o5:op=5
 · subst o5;simp [arityS]
 by_cases o6:op=6
 · subst o6;simp [arityS]
 by_cases o25:op=25
 · subst o25;simp [arityS]
 by_cases o22:op=22
 · subst o22;simp [arityS]
 by_cases o23:op=23
 · subst o23;simp [arityS]
 by_cases c1:op<1
 · have e:arityS op = -1:=by simp [arityS,o1,o2,o24,o3,o4,o5,o6,o25,o22,o23,c1]
   rw [e]
   simp [o1,o2,o24,o3,o4,o5,o6,o25,o22,o23,c1]
 by_cases c2:25<op
 · have e:arityS op = -1:=by simp [arityS,o1,o2,o24,o3,o4,o5,o6,o25,o22,o23,c2]
   rw [e]
   simp [o1,o2,o24,o3,o4,o5,o6,o25,o22,o23,c1,c2]
 have e:arityS op=2:=by simp [arityS,o1,o2,o24,o3,o4,o5,o6,o25,o22,o23,c1,c2]
 rw [e]
 simp [o1,o2,o24,o3,o4,o5,o6,o25,o22,o23,c1,c2]
theorem operands228 (e:Ex):Pure Tryz.prog GG 193 [.agg (encE e)] (.bool (operandsS e)):=by
 refine Pure.vc mixed Tryz.func193 rfl (by kernel_rfl) ?_
 have ht:(e.args.length:Int).tmod 2=((e.args.length % 2:Nat):Int):=rfl
 by_cases o23:e.op=23
 · by_cases c1:e.args.length % 2=1
   · have c1':((e.args.length % 2:Nat):Int)=1:=by omega
     by_cases c2:3≤e.args.length
     · have c2':(3:Int)≤e.args.length:=by omega
       by_cases c3:e.args.length≤33
       · have c3':(e.args.length:Int)≤33:=by omega
         have x:operandsS e=true:=by simp [operandsS,o23,c1,c2,c3]
         rw [x]
         simp only [encE_eq,o23]
         simp [ht,c1',c2',c3']
       · have c3':¬ (e.args.length:Int)≤33:=by omega
         have x:operandsS e=false:=by simp [operandsS,o23,c3]
         rw [x]
         simp only [encE_eq,o23]
         simp [ht,c1',c2',c3']
     · have c2':¬ (3:Int)≤e.args.length:=by omega
       have x:operandsS e=false:=by simp [operandsS,o23,c2]
       rw [x]
       simp only [encE_eq,o23]
       simp [ht,c1',c2']
   · have c1':¬ ((e.args.length % 2:Nat):Int)=1:=by omega
     have c1'':¬ (e.args.length:Int) % 2=1:=by omega
     have x:operandsS e=false:=by simp [operandsS,o23,c1]
     rw [x]
     simp only [encE_eq,o23]
     simp [ht,c1',c1'']
 · have x:operandsS e=decide ((e.args.length:Int)=arityS e.op):=by simp [operandsS,o23]
   rw [x]
   simp only [encE_eq]
   simp [o23]
   refine vcCall.call (arity289 e.op) (by simp) ?_
   simp
   try (rw [Bool.eq_iff_iff];simp)
set_option maxHeartbeats 8000000 in
theorem node151 (e:Ex) (hs:Fits e.name):Pure Tryz.prog GG 138 [.agg (encE e)] (.int .i64 (nodeE e)):=by
 refine Pure.vc mixed Tryz.func138 rfl (by kernel_rfl) ?_
 have hop:=operands228 e
 have hvar:=isVar229 e.name hs
 have hnam:=isName168 e.name
 rw [encE_eq] at hop ⊢
 obtain⟨op,n,s,a⟩:=e
 simp only [Ex.op_mk,Ex.n_mk,Ex.name_mk,Ex.args_mk] at hop hvar hnam hs ⊢
 by_cases c1:op<1
 · have x:nodeE (.mk op n s a)=1:=by simp [nodeE,c1]
   have o2:¬ op=2:=by omega
   have o3:¬ op=3:=by omega
   have o24:¬ op=24:=by omega
   rw [x]
   simp [c1,o2,o3,o24]
 by_cases c2:25<op
 · have x:nodeE (.mk op n s a)=1:=by simp [nodeE,c2]
   have o2:¬ op=2:=by omega
   have o3:¬ op=3:=by omega
   have o24:¬ op=24:=by omega
   rw [x]
   simp [c1,c2,o2,o3,o24]
 by_cases o1:op=1
 · subst o1
   by_cases n1:n<0
   · have x:nodeE (.mk 1 n s a)=1:=by simp [nodeE,n1]
     rw [x]
     simp [n1]
   by_cases n2:65535<n
   · have x:nodeE (.mk 1 n s a)=1:=by simp [nodeE,n2]
     rw [x]
     simp [n1,n2]
   by_cases hnm:s=[]
   · subst hnm
     simp [n1,n2]
     refine vcCall.call hop (by simp) ?_
     cases ho:operandsS (.mk 1 n [] a)
     · have x:nodeE (.mk 1 n [] a)=1:=by simp [nodeE,ho]
       rw [x]
       simp
     · have x:nodeE (.mk 1 n [] a)=0:=by simp [nodeE,ho];omega
       rw [x]
       simp
   · have x:nodeE (.mk 1 n s a)=1:=by simp [nodeE,hnm]
     have hie:s.isEmpty=false:=by simpa using hnm
     have hnb:(s == [])=false:=by simpa using hnm
     rw [x]
     simp [n1,n2,hnm,hie,hnb]
 by_cases n0:n=0
 · subst n0
   by_cases o2:op=2
   · subst o2
     simp
     refine vcCall.call hop (by simp) ?_
     cases ho:operandsS (.mk 2 0 s a)
     · have x:nodeE (.mk 2 0 s a)=1:=by simp [nodeE,ho]
       rw [x]
       simp
     · simp
       refine vcCall.call hvar (by simp) ?_
       cases hv:varS s
       · have x:nodeE (.mk 2 0 s a)=7:=by simp [nodeE,ho,hv]
         rw [x]
         simp
       · have x:nodeE (.mk 2 0 s a)=0:=by simp [nodeE,ho,hv]
         rw [x]
         simp
   by_cases o3:op=3
   · subst o3
     simp
     refine vcCall.call hop (by simp) ?_
     cases ho:operandsS (.mk 3 0 s a)
     · have x:nodeE (.mk 3 0 s a)=1:=by simp [nodeE,ho]
       rw [x]
       simp
     · simp
       refine vcCall.call hnam (by simp) ?_
       cases hv:nameS s
       · have x:nodeE (.mk 3 0 s a)=7:=by simp [nodeE,ho,hv]
         rw [x]
         simp
       · have x:nodeE (.mk 3 0 s a)=0:=by simp [nodeE,ho,hv]
         rw [x]
         simp
   by_cases o24:op=24
   · subst o24
     simp
     refine vcCall.call hop (by simp) ?_
     cases ho:operandsS (.mk 24 0 s a)
     · have x:nodeE (.mk 24 0 s a)=1:=by simp [nodeE,ho]
       rw [x]
       simp
     · simp
       refine vcCall.call hnam (by simp) ?_
       cases hv:nameS s
       · have x:nodeE (.mk 24 0 s a)=7:=by simp [nodeE,ho,hv]
         rw [x]
         simp
       · have x:nodeE (.mk 24 0 s a)=0:=by simp [nodeE,ho,hv]
         rw [x]
         simp
   have b1:(op==1)=false:=by simpa using o1
   have b1':(op != 1)=true:=by simpa using o1
   have b2:(op==2)=false:=by simpa using o2
   have b3:(op==3)=false:=by simpa using o3
   have b24:(op==24)=false:=by simpa using o24
   by_cases hnm:s=[]
   · subst hnm
     simp [c1,c2,o1,o2,o3,o24,b1,b1',b2,b3,b24]
     refine vcCall.call hop (by simp) ?_
     cases ho:operandsS (.mk op 0 [] a)
     · have x:nodeE (.mk op 0 [] a)=1:=by simp [nodeE,ho]
       rw [x]
       simp
     · have x:nodeE (.mk op 0 [] a)=0:=by simp [nodeE,ho,c1,c2,o1,o2,o3,o24]
       rw [x]
       simp [o2,o3,o24,b2,b3,b24]
   · have hie:s.isEmpty=false:=by simpa using hnm
     have x:nodeE (.mk op 0 s a)=1:=by simp [nodeE,c1,c2,o1,o2,o3,o24,hnm]
     rw [x]
     simp [c1,c2,o1,o2,o3,o24,b1,b1',b2,b3,b24,hnm,hie]
 · have x:nodeE (.mk op n s a)=1:=by simp [nodeE,o1,n0]
   rw [x]
   by_cases o2:op=2
   · subst o2;simp [n0]
   by_cases o3:op=3
   · subst o3;simp [n0]
   by_cases o24:op=24
   · subst o24;simp [n0]
   have b1:(op==1)=false:=by simpa using o1
   have b1':(op != 1)=true:=by simpa using o1
   have b2:(op==2)=false:=by simpa using o2
   have b3:(op==3)=false:=by simpa using o3
   have b24:(op==24)=false:=by simpa using o24
   have bn:(n != 0)=true:=by simpa using n0
   simp [c1,c2,o1,o2,o3,o24,n0,b1,b1',b2,b3,b24,bn]
/-! ### Depth -/
theorem hgtL_append {l m:List Ex}:hgtL (l++m)=max (hgtL l) (hgtL m):=by
 induction l with
 | nil=>simp
 | cons a r ih=>simp only [List.cons_append,hgtL_cons,ih];omega
theorem depth152:∀ (e:Ex),Wen e→hgt e<2000000→Pure Tryz.prog GG 139 [.agg (encE e)] (.int .i64 (hgt e)):=by
 refine Ex.ind fun e ih hwe hh=>?_
 refine Pure.vc mixed Tryz.func139 rfl (by kernel_rfl) ?_
 have hl:=hwe.fits
 simp only [encE_eq e]
 simp
 refine vcLoop.intro (fun n env σ=>∃ i tl,i≤e.args.length∧n=e.args.length-i∧env 3=.int .i64 (hgtL (e.args.take i))∧env 7=.sl 4 (e.args.map encE) .none∧env 8=.int .i64 e.args.length∧env 9=.int .i64 i∧σ=⟨tl,[]⟩) e.args.length ⟨0,_,by simp,by simp,by simp,by simp,by simp,by simp,rfl⟩ ?_
 rintro n env σ ⟨i,tl,hi,rfl,h3,h7,h8,h9,rfl⟩
 cases hv:e.args[i]? with
 | some a=>
  obtain⟨hc,hv'⟩:=List.getElem?_eq_some_iff.1 hv
  have hm:=List.mem_of_getElem? hv
  have hlt:=hgt_arg hm
  have e1:hgtL (e.args.take (i+1))=max (hgtL (e.args.take i)) (hgt a):=by
   rw [List.take_add_one,hv,hgtL_append];simp
  simp [h3,h7,h8,h9,hc,hv',encE_eq a,List.set_append]
  rw [← encE_eq a]
  refine vcCall.call (ih a hm (hwe.arg hm) (by omega)) (by simp) ?_
  simp [max2A,h3,h7,h8,h9]
  refine⟨_,by omega,i+1,by omega,rfl,?_,wr (by omega) (by omega)⟩
  rw [e1]
  split<;>omega
 | none=>
  have hc:¬ i<e.args.length:=by simp at hv;omega
  have ht:e.args.take i=e.args:=List.take_of_length_le (by omega)
  rw [ht] at h3
  have hw:IntKind.i64.wrap ((hgtL e.args:Int)+1)=hgt e:=by rw [hgt_eq e] at hh ⊢;rw [wr (by omega) (by omega)];omega
  simp [h3,h7,h8,h9,hc,hw]
/-! ### The visits -/
/-- The first error. -/
noncomputable def stV (_:Int) (e:Ex):Int×Bool:=(nodeE e,nodeE e==0)
def stN (n:Int) (_:Ex):Int×Bool:=(IntKind.i64.wrap (n+1),true)
theorem visits150 (c:List AV) (m:Int→Nat):Visits stV (fun s=>[.cells c,.cells [.int .i64 s]]) (fun _=>[]) 137 [.ptr 1 0] m:=by
 intro s tail e hwe _
 refine ACall.vc mixed Tryz.func137 rfl (by kernel_rfl) ?_
 simp only [encE_eq e]
 simp
 rw [← encE_eq e]
 refine vcCall.call (node151 e hwe.nm) (by simp) ?_
 simp [stV]
theorem visits230 (c:List AV) (m:Int→Nat):Visits stN (fun s=>[.cells c,.cells [.int .i64 s]]) (fun _=>[]) 195 [.ptr 1 0] m:=by
 intro s tail e hwe _
 refine ACall.vc mixed Tryz.func195 rfl (by kernel_rfl) ?_
 simp only [encE_eq e]
 simp [stN]
theorem size153 (e:Ex) (hwe:Wen e):Pure Tryz.prog GG 140 [.agg (encE e)] (.int .i64 (sizeS e)):=by
 refine Pure.vc mixed Tryz.func140 rfl (by kernel_rfl) ?_
 have hx:(runW stN 0 (pre e)).1=sizeS e:=by
  rw [runW_true (fun s e=>rfl)]
  have:=fold_count (n:=0) (pre e)
  simp only [Int.zero_add] at this
  rw [sizeS,← this]
  simp [stN,IntKind.wrap,IntKind.bits,IntKind.signed]
 simp only [encE_eq e]
 simp
 rw [← encE_eq e]
 refine ACall.imp (walk149 (c:=2) (hd:=fun s=>[.cells (encE e),.cells [.int .i64 s]]) (T:=fun _=>[]) (m:=fun _=>(pre e).length) (fun _=>rfl) (fun _ _=>by omega) (visits230 _ _) e hwe 0 (Nat.le_refl _) []) ?_
 rintro r σ' ⟨t,rfl⟩
 rw [hx]
 simp
theorem first_pre (e:Ex):(runW stV 0 (pre e)).1=firstE nodeE (pre e):=by
 have:=runW_first (f:=nodeE) 0 (pre e)
 rw [if_neg (by rw [pre_eq];simp)] at this
 exact this
theorem valid88 (e:Ex) (hwe:Wen e) (hh:hgt e<2000000):Pure Tryz.prog GG 92 [.agg (encE e)] (.int .i64 (validE e)):=by
 refine Pure.vc mixed Tryz.func92 rfl (by kernel_rfl) ?_
 simp only [encE_eq e]
 simp
 rw [← encE_eq e]
 refine ACall.imp (walk149 (c:=2) (hd:=fun s=>[.cells (encE e),.cells [.int .i64 s]]) (T:=fun _=>[]) (m:=fun _=>(pre e).length) (fun _=>rfl) (fun _ _=>by omega) (visits150 _ _) e hwe 0 (Nat.le_refl _) []) ?_
 rintro r σ' ⟨t,rfl⟩
 rw [first_pre]
 by_cases h0:firstE nodeE (pre e)=0
 · rw [h0]
   simp [encE_eq e]
   rw [← encE_eq e]
   refine vcCall.call (depth152 e hwe hh) (by simp) ?_
   by_cases h24:24<hgt e
   · have h24':(24:Int)<hgt e:=by omega
     have x:validE e=2:=by unfold validE;rw [if_pos ⟨h0,.inl h24⟩]
     rw [x]
     simp [h24']
   · have h24':¬ (24:Int)<hgt e:=by omega
     simp [h24',encE_eq e]
     rw [← encE_eq e]
     refine vcCall.call (size153 e hwe) (by simp) ?_
     by_cases h4:400<sizeS e
     · have x:validE e=2:=by unfold validE;rw [if_pos ⟨h0,.inr h4⟩]
       rw [x]
       simp [h4]
     · have x:validE e=0:=by unfold validE;rw [if_neg (fun h=>by rcases h.2 with h | h;exact h24 h;exact h4 h),h0]
       rw [x]
       simp [h4]
 · have x:validE e=firstE nodeE (pre e):=by unfold validE;rw [if_neg (fun h=>h0 h.1)]
   rw [x]
   have hb:(firstE nodeE (pre e)==0)=false:=by simpa using h0
   simp [h0,hb]
/-! ### Names -/
def stM (ops:List Int) (s:List Str) (e:Ex):List Str×Bool:=(addN ops s e,true)
def outA (s:List Str):AV:=match s with
 | []=>.sl 0 [] .nil
 | a::r=>.sl 1 ((a::r).map encStr) (.chain 0 (r.length+1))
def outT (s:List Str):List (Option Nat):=match s with
 | []=>[]
 | _::r=>[some (r.length+1)]
theorem any_beq' {α:Type} [BEq α] (l:List α) (a:α):(l.any fun v=>a==v)=l.contains a:=by rw [List.any_beq]
theorem fold_stM {ops:List Int}:∀ (l:List Ex) (s:List Str),l.foldl (fun s e=>(stM ops s e).1) s=l.foldl (addN ops) s
 | [],s=>rfl
 | e::r,s=>by rw [List.foldl_cons,List.foldl_cons];exact fold_stM r _
theorem addN_length {ops:List Int} {s:List Str} {e:Ex}:(addN ops s e).length≤s.length+1:=by
 unfold addN;split<;>simp
end Go.Proofs.YtkodonalmdmgpaaGreatDoor
end
