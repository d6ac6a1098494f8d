import Derived.Test.YtkodonalmdmgpaaGreatDoorSv21
import Derived.Test.YtkodonalmdmgpaaGreatDoorSv17
set_option maxRecDepth 100000
set_option linter.all false
set_option linter.defProp false
section
namespace Go.Proofs.YtkodonalmdmgpaaGreatDoor
open Go Go.Abs
def namedS (op:Int):Bool:=decide (op=2∨op=3∨op=24)
theorem named282 (op:Int):Pure Tryz.prog GG 352 [.int .i64 op] (.bool (namedS op)):=by
 refine Pure.vc mixed Tryz.func352 rfl (by kernel_rfl) ?_
 by_cases o2:op=2
 · subst o2;simp [namedS]
 by_cases o3:op=3
 · subst o3;simp [namedS]
 by_cases o24:op=24
 · subst o24;simp [namedS]
 simp [namedS,o2,o3,o24]
theorem arity346 (op:Int) (h1:¬ op<1) (h2:¬ 25<op):Pure Tryz.prog GG 353 [.int .i64 op] (.int .i64 (arityS op)):=by
 refine Pure.k mixed Tryz.func353 rfl (by kernel_rfl) ?_
 have:op=1∨op=2∨op=3∨op=4∨op=5∨op=6∨op=7∨op=8∨op=9∨op=10∨op=11∨op=12∨op=13∨op=14∨op=15∨op=16∨op=17∨op=18∨op=19∨op=20∨op=21∨op=22∨op=23∨op=24∨op=25:=by omega
 rcases this with rfl|rfl|rfl|rfl|rfl|rfl|rfl|rfl|rfl|rfl|rfl|rfl|rfl|rfl|rfl|rfl|rfl|rfl|rfl|rfl|rfl|rfl|rfl|rfl|rfl<;>simp [arityS]
set_option maxHeartbeats 20000000 in
theorem wrong291 (e:Ex) (hs:Fits e.name):Pure Tryz.prog GG 301 [.agg (encE e)] (.int .i64 (nodeE e)):=by
 refine Pure.vc mixed Tryz.func301 rfl (by kernel_rfl) ?_
 have hvar:=isVar347 e.name hs
 have hnam:=isName210 e.name hs
 have hnd:=named282 e.op
 rw [encE_eq]
 obtain⟨op,n,s,a⟩:=e
 simp only [Ex.op_mk,Ex.n_mk,Ex.name_mk,Ex.args_mk] at hnd hvar hnam hs ⊢
 have ht:(a.length:Int).tmod 2=((a.length % 2:Nat):Int):=rfl
 by_cases c1:op<1
 · have x:nodeE (.mk op n s a)=1:=by simp [nodeE,c1]
   rw [x]
   simp [c1]
 by_cases c2:25<op
 · have x:nodeE (.mk op n s a)=1:=by simp [nodeE,c2]
   rw [x]
   simp [c1,c2]
 have har:=arity346 op c1 c2
 by_cases n1:n<0
 · have x:nodeE (.mk op n s a)=1:=by
    by_cases o1:op=1
    · simp [nodeE,o1,n1]
    · simp [nodeE,c1,c2,o1,show ¬ n=0 by omega]
   rw [x]
   simp [c1,c2,n1]
 by_cases n2:65535<n
 · have x:nodeE (.mk op n s a)=1:=by
    by_cases o1:op=1
    · simp [nodeE,o1,n2]
    · simp [nodeE,c1,c2,o1,show ¬ n=0 by omega]
   rw [x]
   simp [c1,c2,n1,n2]
 by_cases hnm:s=[]
 · subst hnm
   by_cases o1:op=1
   · subst o1
     by_cases n0:n=0
     · subst n0
       simp []
       refine vcCall.call har (by simp) ?_
       by_cases hl:(a.length:Int)=arityS 1
       rotate_left
       · have ho:operandsS (.mk 1 0 [] a)=false:=by simp [operandsS,hl]
         have x:nodeE (.mk 1 0 [] a)=1:=by simp [nodeE,ho]
         rw [x]
         simp [hl]
       have ho:operandsS (.mk 1 0 [] a)=true:=by simp [operandsS,hl]
       simp [hl]
       refine vcCall.call hnd (by simp) ?_
       have hndf:namedS 1=false:=by simp [namedS]
       have x:nodeE (.mk 1 0 [] a)=0:=by (simp [nodeE,ho]<;>omega)
       rw [x,hndf]
       simp
     · skip
       simp [n0,n1,n2]
       refine vcCall.call har (by simp) ?_
       by_cases hl:(a.length:Int)=arityS 1
       rotate_left
       · have ho:operandsS (.mk 1 n [] a)=false:=by simp [operandsS,hl]
         have x:nodeE (.mk 1 n [] a)=1:=by simp [nodeE,ho]
         rw [x]
         simp [hl]
       have ho:operandsS (.mk 1 n [] a)=true:=by simp [operandsS,hl]
       simp [hl]
       refine vcCall.call hnd (by simp) ?_
       have hndf:namedS 1=false:=by simp [namedS]
       have x:nodeE (.mk 1 n [] a)=0:=by (simp [nodeE,ho]<;>omega)
       rw [x,hndf]
       simp
   by_cases n0:n=0
   rotate_left
   · have x:nodeE (.mk op n [] a)=1:=by simp [nodeE,o1,n0]
     rw [x]
     have b1:(op==1)=false:=by simpa using o1
     have b1':(op != 1)=true:=by simpa using o1
     have bn:(n != 0)=true:=by simpa using n0
     simp [c1,c2,n1,n2,n0,o1,b1,b1',bn]
   subst n0
   by_cases o2:op=2
   · subst o2
     simp []
     refine vcCall.call har (by simp) ?_
     by_cases hl:(a.length:Int)=arityS 2
     rotate_left
     · have ho:operandsS (.mk 2 0 [] a)=false:=by simp [operandsS,hl]
       have x:nodeE (.mk 2 0 [] a)=1:=by simp [nodeE,ho]
       rw [x]
       simp [hl]
     have ho:operandsS (.mk 2 0 [] a)=true:=by simp [operandsS,hl]
     simp [hl]
     refine vcCall.call hvar (by simp) ?_
     cases hv:varS []
     · have x:nodeE (.mk 2 0 [] a)=7:=by simp [nodeE,ho,hv]
       rw [x]
       simp
     · have x:nodeE (.mk 2 0 [] a)=0:=by simp [nodeE,ho,hv]
       rw [x]
       simp
       refine vcCall.call hnd (by simp) ?_
       simp [namedS]
   by_cases o3:op=3
   · subst o3
     simp []
     refine vcCall.call har (by simp) ?_
     by_cases hl:(a.length:Int)=arityS 3
     rotate_left
     · have ho:operandsS (.mk 3 0 [] a)=false:=by simp [operandsS,hl]
       have x:nodeE (.mk 3 0 [] a)=1:=by simp [nodeE,ho]
       rw [x]
       simp [hl]
     have ho:operandsS (.mk 3 0 [] a)=true:=by simp [operandsS,hl]
     simp [hl]
     refine vcCall.call hnd (by simp) ?_
     simp [namedS]
     refine vcCall.call hnam (by simp) ?_
     cases hv:nameS []
     · have x:nodeE (.mk 3 0 [] a)=7:=by simp [nodeE,ho,hv]
       rw [x]
       simp
     · have x:nodeE (.mk 3 0 [] a)=0:=by simp [nodeE,ho,hv]
       rw [x]
       simp
   by_cases o24:op=24
   · subst o24
     simp []
     refine vcCall.call har (by simp) ?_
     by_cases hl:(a.length:Int)=arityS 24
     rotate_left
     · have ho:operandsS (.mk 24 0 [] a)=false:=by simp [operandsS,hl]
       have x:nodeE (.mk 24 0 [] a)=1:=by simp [nodeE,ho]
       rw [x]
       simp [hl]
     have ho:operandsS (.mk 24 0 [] a)=true:=by simp [operandsS,hl]
     simp [hl]
     refine vcCall.call hnd (by simp) ?_
     simp [namedS]
     refine vcCall.call hnam (by simp) ?_
     cases hv:nameS []
     · have x:nodeE (.mk 24 0 [] a)=7:=by simp [nodeE,ho,hv]
       rw [x]
       simp
     · have x:nodeE (.mk 24 0 [] a)=0:=by simp [nodeE,ho,hv]
       rw [x]
       simp
   by_cases o23:op=23
   · subst o23
     by_cases l1:a.length<3
     · have l1':(a.length:Int)<3:=by omega
       have l1'':¬ (3:Int)≤a.length:=by omega
       have ho:operandsS (.mk 23 0 [] a)=false:=by show decide (a.length % 2=1∧3≤a.length∧a.length≤33)=false;exact decide_eq_false (by omega)
       have x:nodeE (.mk 23 0 [] a)=1:=by simp [nodeE,ho]
       rw [x]
       simp [l1',l1'']
     have l1':¬ (a.length:Int)<3:=by omega
     have l1'':(3:Int)≤a.length:=by omega
     by_cases l2:33<a.length
     · have l2':(33:Int)<a.length:=by omega
       have l2'':¬ (a.length:Int)≤33:=by omega
       have ho:operandsS (.mk 23 0 [] a)=false:=by show decide (a.length % 2=1∧3≤a.length∧a.length≤33)=false;exact decide_eq_false (by omega)
       have x:nodeE (.mk 23 0 [] a)=1:=by simp [nodeE,ho]
       rw [x]
       simp [l1',l1'',l2',l2'']
     have l2':¬ (33:Int)<a.length:=by omega
     have l2'':(a.length:Int)≤33:=by omega
     by_cases l3:a.length % 2=0
     · have l3':(a.length:Int) % 2=0:=by omega
       have l4:(a.length:Int).tmod 2=0:=by rw [ht];omega
       have ho:operandsS (.mk 23 0 [] a)=false:=by show decide (a.length % 2=1∧3≤a.length∧a.length≤33)=false;exact decide_eq_false (by omega)
       have x:nodeE (.mk 23 0 [] a)=1:=by simp [nodeE,ho]
       rw [x]
       simp [l1',l1'',l2',l2'',l3',l4]
     have l3':¬ (a.length:Int) % 2=0:=by omega
     have l4:¬ (a.length:Int).tmod 2=0:=by rw [ht];omega
     have ho:operandsS (.mk 23 0 [] a)=true:=by show decide (a.length % 2=1∧3≤a.length∧a.length≤33)=true;exact decide_eq_true (by omega)
     simp [l1',l1'',l2',l2'',l3',l4]
     refine vcCall.call hnd (by simp) ?_
     have hndf:namedS 23=false:=by simp [namedS]
     have x:nodeE (.mk 23 0 [] a)=0:=by simp [nodeE,ho,c1,c2]
     rw [x,hndf]
     simp
   have b1:(op==1)=false:=by simpa using o1
   have b1':(op != 1)=true:=by simpa using o1
   have b2:(op==2)=false:=by simpa using o2
   have b2':(op != 2)=true:=by simpa using o2
   have b3:(op==3)=false:=by simpa using o3
   have b3':(op != 3)=true:=by simpa using o3
   have b24:(op==24)=false:=by simpa using o24
   have b24':(op != 24)=true:=by simpa using o24
   have b23:(op==23)=false:=by simpa using o23
   have b23':(op != 23)=true:=by simpa using o23
   simp [c1,c2,o1,o2,o3,o24,o23,b1,b2,b3,b24,b23,b1',b2',b3',b24',b23']
   refine vcCall.call har (by simp) ?_
   by_cases hl:(a.length:Int)=arityS op
   rotate_left
   · have ho:operandsS (.mk op 0 [] a)=false:=by simp [operandsS,hl,o1,o2,o3,o24,o23]
     have x:nodeE (.mk op 0 [] a)=1:=by simp [nodeE,ho]
     rw [x]
     simp [hl]
   have ho:operandsS (.mk op 0 [] a)=true:=by simp [operandsS,hl,o1,o2,o3,o24,o23]
   simp [hl,o1,o2,o3,o24,o23]
   refine vcCall.call hnd (by simp) ?_
   have hndf:namedS op=false:=by simp [namedS,o1,o2,o3,o24,o23]
   have x:nodeE (.mk op 0 [] a)=0:=by simp [nodeE,ho,c1,c2,o1,o2,o3,o24,o23]
   rw [x,hndf]
   simp
 · have hie:s.isEmpty=false:=by simpa using hnm
   by_cases o1:op=1
   · subst o1
     have x:nodeE (.mk 1 n s a)=1:=by simp [nodeE,hnm]
     rw [x]
     by_cases n0:n=0
     · subst n0
       simp [n1,n2,hnm,hie]
       refine vcCall.call hnd (by simp) ?_
       simp [namedS]
     · skip
       simp [n1,n2,hnm,hie,n0]
       refine vcCall.call hnd (by simp) ?_
       simp [namedS]
   by_cases n0:n=0
   rotate_left
   · have x:nodeE (.mk op n s a)=1:=by simp [nodeE,o1,n0]
     rw [x]
     have b1:(op==1)=false:=by simpa using o1
     have b1':(op != 1)=true:=by simpa using o1
     have bn:(n != 0)=true:=by simpa using n0
     simp [c1,c2,n1,n2,n0,o1,b1,b1',bn]
   subst n0
   by_cases o2:op=2
   · subst o2
     simp [hnm,hie]
     refine vcCall.call hnd (by simp) ?_
     simp [namedS]
     refine vcCall.call har (by simp) ?_
     by_cases hl:(a.length:Int)=arityS 2
     rotate_left
     · have ho:operandsS (.mk 2 0 s a)=false:=by simp [operandsS,hl]
       have x:nodeE (.mk 2 0 s a)=1:=by simp [nodeE,ho]
       rw [x]
       simp [hl]
     have ho:operandsS (.mk 2 0 s a)=true:=by simp [operandsS,hl]
     simp [hl]
     refine vcCall.call hvar (by simp) ?_
     cases hv:varS s
     · have x:nodeE (.mk 2 0 s a)=7:=by simp [nodeE,ho,hv]
       rw [x]
       simp
     · have x:nodeE (.mk 2 0 s a)=0:=by simp [nodeE,ho,hv]
       rw [x]
       simp
       refine vcCall.call hnd (by simp) ?_
       simp [namedS]
   by_cases o3:op=3
   · subst o3
     simp [hnm,hie]
     refine vcCall.call hnd (by simp) ?_
     simp [namedS]
     refine vcCall.call har (by simp) ?_
     by_cases hl:(a.length:Int)=arityS 3
     rotate_left
     · have ho:operandsS (.mk 3 0 s a)=false:=by simp [operandsS,hl]
       have x:nodeE (.mk 3 0 s a)=1:=by simp [nodeE,ho]
       rw [x]
       simp [hl]
     have ho:operandsS (.mk 3 0 s a)=true:=by simp [operandsS,hl]
     simp [hl]
     refine vcCall.call hnd (by simp) ?_
     simp [namedS]
     refine vcCall.call hnam (by simp) ?_
     cases hv:nameS s
     · have x:nodeE (.mk 3 0 s a)=7:=by simp [nodeE,ho,hv]
       rw [x]
       simp
     · have x:nodeE (.mk 3 0 s a)=0:=by simp [nodeE,ho,hv]
       rw [x]
       simp
   by_cases o24:op=24
   · subst o24
     simp [hnm,hie]
     refine vcCall.call hnd (by simp) ?_
     simp [namedS]
     refine vcCall.call har (by simp) ?_
     by_cases hl:(a.length:Int)=arityS 24
     rotate_left
     · have ho:operandsS (.mk 24 0 s a)=false:=by simp [operandsS,hl]
       have x:nodeE (.mk 24 0 s a)=1:=by simp [nodeE,ho]
       rw [x]
       simp [hl]
     have ho:operandsS (.mk 24 0 s a)=true:=by simp [operandsS,hl]
     simp [hl]
     refine vcCall.call hnd (by simp) ?_
     simp [namedS]
     refine vcCall.call hnam (by simp) ?_
     cases hv:nameS s
     · have x:nodeE (.mk 24 0 s a)=7:=by simp [nodeE,ho,hv]
       rw [x]
       simp
     · have x:nodeE (.mk 24 0 s a)=0:=by simp [nodeE,ho,hv]
       rw [x]
       simp
   by_cases o23:op=23
   · subst o23
     have x:nodeE (.mk 23 0 s a)=1:=by simp [nodeE,hnm]
     rw [x]
     simp [hnm,hie]
     refine vcCall.call hnd (by simp) ?_
     simp [namedS]
   have b1:(op==1)=false:=by simpa using o1
   have b1':(op != 1)=true:=by simpa using o1
   have b2:(op==2)=false:=by simpa using o2
   have b2':(op != 2)=true:=by simpa using o2
   have b3:(op==3)=false:=by simpa using o3
   have b3':(op != 3)=true:=by simpa using o3
   have b24:(op==24)=false:=by simpa using o24
   have b24':(op != 24)=true:=by simpa using o24
   have b23:(op==23)=false:=by simpa using o23
   have b23':(op != 23)=true:=by simpa using o23
   have x:nodeE (.mk op 0 s a)=1:=by simp [nodeE,c1,c2,o1,o2,o3,o24,o23,hnm]
   rw [x]
   simp [c1,c2,o1,o2,o3,o24,o23,b1,b2,b3,b24,b23,b1',b2',b3',b24',b23',hnm,hie]
   refine vcCall.call hnd (by simp) ?_
   simp [namedS,o2,o3,o24]
def slS (V:List Str) (tv:Option Nat):AV:=match tv with
 | none=>.sl 0 [] .nil
 | some t=>.sl 1 (V.map encStr) (.chain t V.length)
def TT (V:List Str) (tv:Option Nat) (T:List (Option Nat)):Prop:=match tv with
 | none=>V=[]
 | some t=>V≠[]∧T[t]?=some (some V.length)
/-- What the walk has found, in memory; blocks of before stay but for its own. -/
structure OS (b:Nat) (n d f:Int) (V A:List Str) (tv ta:Option Nat) (σ0 σ:St):Prop where
 hb:σ.H[b]?=some (.cells [.int .i64 n,.int .i64 d,.int .i64 f,slS V tv,slS A ta])
 tV:TT V tv σ.T
 tA:TT A ta σ.T
 dis:tv≠none→tv≠ta
 len:σ0.H.length≤σ.H.length
 ext:∀ x,x≠b→x<σ0.H.length→σ.H[x]?=σ0.H[x]?
structure SS (b be:Nat) (e:Ex) (n d f:Int) (V A:List Str) (tv ta:Option Nat) (σ0 σ:St):Prop extends OS b n d f V A tv ta σ0 σ where
 hbe:σ.H[be]?=some (.cells (encE e))
 ne:be≠b
 old:σ0.H.length≤be
theorem SS.set {b be:Nat} {e:Ex} {n d f n' d' f':Int} {V A V' A':List Str} {tv ta tv' ta':Option Nat} {σ0 σ:St} {T:List (Option Nat)} (h:SS b be e n d f V A tv ta σ0 σ)
 (hV:TT V' tv' T) (hA:TT A' ta' T) (hd:tv'≠none→tv'≠ta') :
 SS b be e n' d' f' V' A' tv' ta' σ0 ⟨σ.H.set b (.cells [.int .i64 n',.int .i64 d',.int .i64 f',slS V' tv',slS A' ta']),T⟩:=by
 have hlt:=(List.getElem?_eq_some_iff.1 h.hb).1
 refine⟨⟨?_,hV,hA,hd,by simpa using h.len,fun x hx hl=>?_⟩,?_,h.ne,h.old⟩
 · simp [hlt]
 · simp only [List.getElem?_set]
   rw [if_neg (fun e=>hx e.symm)]
   exact h.ext x hx hl
 · simp only [List.getElem?_set]
   rw [if_neg (fun e=>h.ne e.symm)]
   exact h.hbe
theorem TT.push {A:List Str} {ta:Option Nat} {T:List (Option Nat)} {x:Option Nat} (h:TT A ta T):TT A ta (T++[x]):=by
 cases ta with
 | none=>exact h
 | some t=>exact⟨h.1,by rw [List.getElem?_append_left (List.getElem?_eq_some_iff.1 h.2).1];exact h.2⟩
theorem TT.set {A:List Str} {ta:Option Nat} {T:List (Option Nat)} {t:Nat} {x:Option Nat} (h:TT A ta T) (hn:some t≠ta):TT A ta (T.set t x):=by
 cases ta with
 | none=>exact h
 | some u=>
  refine⟨h.1,?_⟩
  rw [List.getElem?_set,if_neg (fun e=>hn (by rw [e]))]
  exact h.2
theorem TT.ne {A:List Str} {ta:Option Nat} {T:List (Option Nat)} (h:TT A ta T):some T.length≠ta:=by
 intro e
 subst e
 have:=(List.getElem?_eq_some_iff.1 h.2).1
 omega
/-- A name is added. -/
theorem TT.one {s:Str} {T:List (Option Nat)}:TT [s] (some T.length) (T++[some 1]):=⟨by simp,by simp⟩
theorem TT.more {V:List Str} {s:Str} {t:Nat} {T:List (Option Nat)} (h:TT V (some t) T):TT (V++[s]) (some t) (T.set t (some (V.length+1))) :=
 ⟨by simp,by simp [(List.getElem?_eq_some_iff.1 h.2).1]⟩
theorem OS.self {b:Nat} {n d f:Int} {V A:List Str} {tv ta:Option Nat} {σ0 σ:St} (h:OS b n d f V A tv ta σ0 σ):OS b n d f V A tv ta σ σ :=
 ⟨h.hb,h.tV,h.tA,h.dis,Nat.le_refl _,fun _ _ _=>rfl⟩
theorem SS.then {b be:Nat} {e:Ex} {n d f n' d' f':Int} {V A V' A':List Str} {tv ta tv' ta':Option Nat} {σ0 σ σ':St} (h:SS b be e n d f V A tv ta σ0 σ) (h':OS b n' d' f' V' A' tv' ta' σ σ'):SS b be e n' d' f' V' A' tv' ta' σ0 σ':=by
 refine⟨⟨h'.hb,h'.tV,h'.tA,h'.dis,Nat.le_trans h.len h'.len,fun x hx hl=>?_⟩,?_,h.ne,h.old⟩
 · rw [h'.ext x hx (Nat.lt_of_lt_of_le hl h.len)];exact h.ext x hx hl
 · rw [h'.ext be h.ne (List.getElem?_eq_some_iff.1 h.hbe).1];exact h.hbe
/-- The first error, if there was none before. -/
noncomputable def fst (f:Int) (l:List Ex):Int:=if f=0 then firstE nodeE l else f
theorem fst_append {f:Int} {l m:List Ex}:fst f (l++m)=if fst f l=0 then firstE nodeE m else fst f l:=by
 unfold fst
 by_cases h:f=0
 · simp only [if_pos h,firstE_append]
 · simp only [if_neg h]
/-- A node's name is noted, if it is a variable that has not been seen. -/
def seeN (V:List Str) (x:Ex):List Str:=if x.op=2∧V.any (· == x.name)=false then V++[x.name] else V
def seeNs (V:List Str) (l:List Ex):List Str:=l.foldl seeN V
@[simp] theorem seeNs_nil (V:List Str):seeNs V []=V:=rfl
@[simp] theorem seeNs_cons (V:List Str) (x:Ex) (l:List Ex):seeNs V (x::l)=seeNs (seeN V x) l:=rfl
theorem seeNs_append (V:List Str) (l m:List Ex):seeNs V (l++m)=seeNs (seeNs V l) m:=by unfold seeNs;rw [List.foldl_append]
set_option maxHeartbeats 8000000 in
theorem see235:∀ (e:Ex),Wen e→∀ (σ0:St) (b:Nat) (n d f:Int) (V A:List Str) (tv ta:Option Nat) (dp:Int) (m:Nat),OS b n d f V A tv ta σ0 σ0→V.length+A.length≤m→m+(pre e).length≤200000000000→0≤dp→dp+hgt e≤5000000 →
 ACall Tryz.prog GG 253 [.ptr b 0,.agg (encE e),.int .i64 dp] σ0 (fun r σ=>∃ V' A' tv' ta',OS b (IntKind.i64.wrap (n+(pre e).length)) (max d (dp+hgt e-1)) (if f=0 then firstE nodeE (pre e) else f) V' A' tv' ta' σ0 σ∧V'.length+A'.length≤m+(pre e).length∧V'=seeNs V (pre e)):=by
 refine Ex.ind fun e ih hwe σ0 b n d f V A tv ta dp m hos hm1 hm2 hdp hdh=>?_
 have hlt:=(List.getElem?_eq_some_iff.1 hos.hb).1
 refine ACall.vc mixed Tryz.func253 rfl (by kernel_rfl) ?_
 -- the box
 refine vc_cut (fun env σ=>env 0=.ptr b 0∧env 2=.int .i64 dp∧env 4=.ptr σ0.H.length 0∧SS b σ0.H.length e n d f V A tv ta σ0 σ) rfl ?_ ?_
 · simp [encE_eq e]
   refine⟨⟨by rw [List.getElem?_append_left hlt];exact hos.hb,hos.tV,hos.tA,hos.dis,by simp,fun x hx hl=>by rw [List.getElem?_append_left hl]⟩,by simp [encE_eq e],by omega,Nat.le_refl _⟩
 rintro env σ ⟨h0,h2,h4,hs⟩
 -- the number of nodes
 refine vc_cut (fun env σ=>env 0=.ptr b 0∧env 2=.int .i64 dp∧env 4=.ptr σ0.H.length 0∧SS b σ0.H.length e (IntKind.i64.wrap (n+1)) d f V A tv ta σ0 σ) rfl ?_ ?_
 · simp [h0,h2,h4,hs.hb]
   exact hs.set hs.tV hs.tA hs.dis
 clear h0 h2 h4 hs
 rintro env σ ⟨h0,h2,h4,hs⟩
 -- the depth
 refine vc_cut (fun env σ=>env 0=.ptr b 0∧env 2=.int .i64 dp∧env 4=.ptr σ0.H.length 0∧SS b σ0.H.length e (IntKind.i64.wrap (n+1)) (max d dp) f V A tv ta σ0 σ) rfl ?_ ?_
 · by_cases hd:d<dp
   · simp [h0,h2,h4,hs.hb,hd]
     have:max d dp=dp:=by omega
     rw [this]
     exact hs.set hs.tV hs.tA hs.dis
   · simp [h0,h2,h4,hs.hb,hd]
     have:max d dp=d:=by omega
     rw [this]
     exact hs
 clear h0 h2 h4 hs
 rintro env σ ⟨h0,h2,h4,hs⟩
 -- the first error
 refine vc_cut (fun env σ=>env 0=.ptr b 0∧env 2=.int .i64 dp∧env 4=.ptr σ0.H.length 0∧SS b σ0.H.length e (IntKind.i64.wrap (n+1)) (max d dp) (if f=0 then nodeE e else f) V A tv ta σ0 σ) rfl ?_ ?_
 · by_cases hf:f=0
   · subst hf
     have hbe:=hs.hbe
     rw [encE_eq] at hbe
     simp [h0,h2,h4,hs.hb,hbe]
     rw [← encE_eq e]
     refine vcCall.call (wrong291 e hwe.nm) (by simp) ?_
     simp [hs.hb]
     exact hs.set hs.tV hs.tA hs.dis
   · simp [h0,h2,h4,hs.hb,hf]
     exact hs
 clear h0 h2 h4 hs
 rintro env σ ⟨h0,h2,h4,hs⟩
 -- a variable's name
 refine vc_cut (fun env σ=>env 0=.ptr b 0∧env 2=.int .i64 dp∧env 4=.ptr σ0.H.length 0∧∃ V' tv',SS b σ0.H.length e (IntKind.i64.wrap (n+1)) (max d dp) (if f=0 then nodeE e else f) V' A tv' ta σ0 σ∧V'.length≤V.length+(if e.op=2 then 1 else 0)∧V'=seeN V e) rfl ?_ ?_
 · have hbe:=hs.hbe
   rw [encE_eq] at hbe
   by_cases o2:e.op=2
   · cases tv with
     | none=>
      have hV:V=[]:=hs.tV
      subst hV
      have hb:=hs.hb
      simp only [slS] at hb
      simp [h0,h4,hb,hbe,o2]
      refine vcCall.less (has292 GG [] e.name (by simp)) (by simp) (by simp [Leq]) ?_
      simp [h0,h2,h4,hb,hbe,appendA,buildSliceA,rowsFill,rowsOf]
      have hN:seeN [] e=[e.name]:=by simp [seeN,o2]
      rw [hN]
      refine⟨⟨some σ.T.length,?_⟩,by simp⟩
      have:=hs.set (n':=IntKind.i64.wrap (n+1)) (d':=max d dp) (f':=if f=0 then nodeE e else f) (TT.one (s:=e.name) (T:=σ.T)) (hs.tA.push (x:=some 1)) (fun _=>hs.tA.ne)
      simpa [slS] using this
     | some t=>
      have hb:=hs.hb
      simp only [slS] at hb
      have htV:=hs.tV.2
      have hV0:=hs.tV.1
      simp [h0,h4,hb,hbe,o2]
      refine vcCall.pure (has292 GG V e.name (by omega)) (by simp) (by simp) ?_
      cases hh:V.any (· == e.name)
      · have hbd:V.length+1≤549755813888:=by omega
        simp [h0,h2,h4,hb,hbe,appendA,buildSliceA,rowsFill,rowsOf,htV,hbd]
        have hN:seeN V e=V++[e.name]:=by unfold seeN;rw [if_pos ⟨o2,hh⟩]
        rw [hN]
        refine⟨⟨some t,?_⟩,by simp⟩
        have:=hs.set (n':=IntKind.i64.wrap (n+1)) (d':=max d dp) (f':=if f=0 then nodeE e else f) (TT.more (s:=e.name) hs.tV) (hs.tA.set (t:=t) (x:=some (V.length+1)) (hs.dis (by simp))) (fun _=>hs.dis (by simp))
        simpa [slS] using this
      · simp [h0,h2,h4]
        have hN:seeN V e=V:=by unfold seeN;rw [if_neg (fun h=>by rw [hh] at h;simp at h)]
        rw [hN]
        exact⟨⟨some t,hs⟩,by omega⟩
   · simp [h0,h2,h4,hs.hb,hbe,o2]
     have hN:seeN V e=V:=by unfold seeN;rw [if_neg (fun h=>o2 h.1)]
     rw [hN]
     exact⟨⟨tv,hs⟩,Nat.le_refl _⟩
 clear h0 h2 h4 hs
 rintro env σ ⟨h0,h2,h4,V1,tv1,hs,hVl,hV1⟩
 have hVA:V1.length+A.length≤m+(if e.op=2 then 1 else 0):=by omega
 have hdisA:∀ u,ta=some u→some u≠tv1:=fun u hu e=>by
  have:=hs.dis (by rw [← e];simp)
  exact this (by rw [hu,← e])
 -- an array's name
 refine vc_cut (fun env σ=>env 0=.ptr b 0∧env 2=.int .i64 dp∧env 4=.ptr σ0.H.length 0∧∃ A' ta',SS b σ0.H.length e (IntKind.i64.wrap (n+1)) (max d dp) (if f=0 then nodeE e else f) V1 A' tv1 ta' σ0 σ∧A'.length≤A.length+(if e.op=3∨e.op=24 then 1 else 0)) rfl ?_ ?_
 · have hbe:=hs.hbe
   rw [encE_eq] at hbe
   have main:(e.op=3∨e.op=24)→(e.op==3||e.op==24)=true:=fun h=>by rcases h with h | h<;>simp [h]
   by_cases o3:e.op=3∨e.op=24
   · rcases o3 with o3|o3
     all_goals
      have hif:(if e.op=3∨e.op=24 then (1:Nat) else 0)=1:=by simp [o3]
      cases ta with
      | none=>
       have hA:A=[]:=hs.tA
       subst hA
       have hb:=hs.hb
       simp only [slS] at hb
       simp [h0,h4,hb,hbe,o3]
       refine vcCall.less (has292 GG [] e.name (by simp)) (by simp) (by simp [Leq]) ?_
       simp [h0,h2,h4,hb,hbe,o3,appendA,buildSliceA,rowsFill,rowsOf]
       refine⟨[e.name],⟨some σ.T.length,?_⟩,by simp⟩
       have:=hs.set (n':=IntKind.i64.wrap (n+1)) (d':=max d dp) (f':=if f=0 then nodeE e else f) (hs.tV.push (x:=some 1)) (TT.one (s:=e.name) (T:=σ.T)) (fun _ e=>hs.tV.ne e.symm)
       simpa [slS] using this
      | some t=>
       have hb:=hs.hb
       simp only [slS] at hb
       have htA:=hs.tA.2
       simp [h0,h4,hb,hbe,o3]
       refine vcCall.pure (has292 GG A e.name (by omega)) (by simp) (by simp) ?_
       cases hh:A.any (· == e.name)
       · have hbd:A.length+1≤549755813888:=by omega
         simp [h0,h2,h4,hb,hbe,o3,appendA,buildSliceA,rowsFill,rowsOf,htA,hbd]
         refine⟨A++[e.name],⟨some t,?_⟩,by simp⟩
         have:=hs.set (n':=IntKind.i64.wrap (n+1)) (d':=max d dp) (f':=if f=0 then nodeE e else f) (hs.tV.set (t:=t) (x:=some (A.length+1)) (hdisA t rfl)) (TT.more (s:=e.name) hs.tA) (fun h=>hs.dis h)
         simpa [slS] using this
       · simp [h0,h2,h4]
         exact⟨A,⟨some t,hs⟩,by omega⟩
   · have o3':¬ e.op=3:=fun h=>o3 (.inl h)
     have o24':¬ e.op=24:=fun h=>o3 (.inr h)
     simp [h0,h2,h4,hs.hb,hbe,o3',o24']
     exact⟨A,⟨ta,hs⟩,Nat.le_refl _⟩
 clear h0 h2 h4 hs
 rintro env σ ⟨h0,h2,h4,A1,ta1,hs,hAl⟩
 have hVA1:V1.length+A1.length≤m+1:=by
  by_cases o2:e.op=2
  · rw [if_pos o2] at hVl;rw [if_neg (by omega)] at hAl;omega
  · rw [if_neg o2] at hVl;split at hAl<;>omega
 clear hVA hVl hAl hdisA
 have hl:=hwe.fits
 have hf0:(if f=0 then nodeE e else f)=fst f [e]:=by
  unfold fst
  by_cases h:f=0
  · simp only [if_pos h,firstE];split
    · assumption
    · rfl
  · simp only [if_neg h]
 rw [hf0] at hs
 have hlen:(pre e).length=(preL e.args).length+1:=by rw [pre_eq,List.length_cons]
 simp
 refine vcLoop.intro (fun q env σ=>∃ i V2 A2 tv2 ta2,i≤e.args.length∧q=e.args.length-i∧env 0=.ptr b 0∧env 2=.int .i64 dp∧env 4=.ptr σ0.H.length 0∧env 6=.int .i64 i∧SS b σ0.H.length e (IntKind.i64.wrap (n+((preL (e.args.take i)).length+1:Nat))) (max d (dp+hgtL (e.args.take i))) (fst f (e::preL (e.args.take i))) V2 A2 tv2 ta2 σ0 σ∧V2.length+A2.length≤m+1+(preL (e.args.take i)).length∧V2=seeNs V (e::preL (e.args.take i))) e.args.length ⟨0,V1,A1,tv1,ta1,by simp,by simp,by simp [h0],by simp [h2],by simp [h4],by simp,by simpa using hs,by simpa using hVA1,by simp [hV1]⟩ ?_
 clear h0 h2 h4 hs hVA1
 rintro q env σ ⟨i,V2,A2,tv2,ta2,hi,rfl,h0,h2,h4,h6,hs,hva,hV2⟩
 have hbe:=hs.hbe
 rw [encE_eq] at hbe
 cases hv:e.args[i]? with
 | some a=>
  obtain⟨hc,hv'⟩:=List.getElem?_eq_some_iff.1 hv
  have hma:=List.mem_of_getElem? hv
  have hlt2:=hgt_arg hma
  have etake:e.args.take (i+1)=e.args.take i++[a]:=by rw [List.take_add_one,hv];rfl
  have epre:preL (e.args.take (i+1))=preL (e.args.take i)++pre a:=by rw [etake,preL_append];simp
  have ehgt:hgtL (e.args.take (i+1))=max (hgtL (e.args.take i)) (hgt a):=by rw [etake,hgtL_append];simp
  have hsub:(preL (e.args.take i)).length+(pre a).length≤(preL e.args).length:=by
   have:e.args=e.args.take (i+1)++e.args.drop (i+1):=(List.take_append_drop _ _).symm
   have e2:(preL e.args).length=(preL (e.args.take (i+1))).length+(preL (e.args.drop (i+1))).length:=by
    conv=>lhs;rw [this,preL_append,List.length_append]
   rw [epre,List.length_append] at e2
   omega
  have hwd:IntKind.i64.wrap (dp+1)=dp+1:=wr (by omega) (by omega)
  simp [h0,h2,h4,h6,hbe,hc,hv',encE_eq a,hwd]
  rw [← encE_eq a]
  refine ACall.imp (ih a hma (hwe.arg hma) σ b _ _ _ V2 A2 tv2 ta2 (dp+1) (m+1+(preL (e.args.take i)).length) hs.toOS.self hva (by omega) (by omega) (by omega)) ?_
  rintro r σ' ⟨V',A',tv',ta',hos',hva',hV'⟩
  try simp [h0,h2,h4,h6]
  refine⟨_,by omega,i+1,by omega,rfl,wr (by omega) (by omega),V',A',⟨tv',ta',?_⟩,?_,?_⟩
  · have h:=hs.then hos'
    have e1:IntKind.i64.wrap (IntKind.i64.wrap (n+((preL (e.args.take i)).length+1:Nat))+(pre a).length)=IntKind.i64.wrap (n+((preL (e.args.take (i+1))).length+1)):=by
     rw [wrap_add,epre,List.length_append]
     congr 1
     omega
    have e2:max (max d (dp+hgtL (e.args.take i))) (dp+1+hgt a-1)=max d (dp+hgtL (e.args.take (i+1))):=by
     rw [ehgt];omega
    have e3:(if fst f (e::preL (e.args.take i))=0 then firstE nodeE (pre a) else fst f (e::preL (e.args.take i)))=fst f (e::preL (e.args.take (i+1))):=by
     rw [epre,← List.cons_append,fst_append]
    rw [e1,e2,e3] at h
    exact h
  · rw [epre,List.length_append];omega
  · rw [hV',hV2,epre,seeNs_cons,seeNs_append]
 | none=>
  have hc:¬ i<e.args.length:=by simp at hv;omega
  have ht:e.args.take i=e.args:=List.take_of_length_le (by omega)
  rw [ht,← hlen,← pre_eq] at hs
  rw [ht] at hva hV2
  rw [← pre_eq] at hV2
  have e2:max d (dp+hgtL e.args)=max d (dp+hgt e-1):=by rw [hgt_eq e];omega
  rw [e2] at hs
  simp [h4,h6,hbe,hc]
  exact⟨V2,A2,⟨tv2,ta2,hs.toOS⟩,by omega,hV2⟩
theorem over_OS (σ:St) (b:Nat) (h:σ.H[b]?=some (.cells [.int .i64 0,.int .i64 0,.int .i64 0,.sl 0 [] .nil,.sl 0 [] .nil])):OS b 0 0 0 [] [] none none σ σ :=
 ⟨h,rfl,rfl,fun h=>absurd rfl h,Nat.le_refl _,fun _ _ _=>rfl⟩
theorem over159 (e:Ex) (hwe:Wen e) (hh:hgt e≤2000000) (hsz:(pre e).length≤200000000000) (σ0:St):ACall Tryz.prog GG 199 [.agg (encE e)] σ0 (fun r σ=>∃ b V A tv ta,r=.ptr b 0∧σ.H[b]?=some (.cells [.int .i64 (sizeS e),.int .i64 (hgt e),.int .i64 (firstE nodeE (pre e)),slS V tv,slS A ta])∧TT V tv σ.T∧V=seeNs [] (pre e)):=by
 refine ACall.vc mixed Tryz.func199 rfl (by kernel_rfl) ?_
 simp only [encE_eq e]
 simp [buildA,fillA]
 rw [← encE_eq e]
 refine ACall.imp (see235 e hwe _ (σ0.H.length+1) 0 0 0 [] [] none none 1 0 (over_OS _ _ (by simp)) (by simp) (by omega) (by omega) (by omega)) ?_
 rintro r σ ⟨V,A,tv,ta,hos,_,hV⟩
 have hb:=hos.hb
 have hx:max 0 (1+(hgt e:Int)-1)=hgt e:=by omega
 rw [hx] at hb
 simp only [if_true,Int.zero_add] at hb
 try simp
 exact⟨V,A,tv,⟨ta,hb⟩,hos.tV,hV⟩
theorem valid92 (e:Ex) (hwe:Wen e) (hh:hgt e≤2000000) (hsz:(pre e).length≤2000000):Pure Tryz.prog GG 144 [.agg (encE e)] (.int .i64 (validE e)):=by
 refine Pure.vc mixed Tryz.func144 rfl (by kernel_rfl) ?_
 simp only [encE_eq e]
 simp
 rw [← encE_eq e]
 refine ACall.imp (over159 e hwe hh (by omega) _) ?_
 rintro r σ ⟨b,V,A,tv,ta,rfl,hb,_,_⟩
 by_cases h0:firstE nodeE (pre e)=0
 · rw [h0] at hb
   by_cases h24:24<hgt e
   · have h24':(24:Int)<hgt e:=by omega
     have x:validE e=2:=by unfold validE;rw [if_pos ⟨h0,.inl h24⟩]
     rw [x]
     simp [hb,h24']
   · have h24':¬ (24:Int)<hgt e:=by omega
     by_cases h4:400<sizeS e
     · have x:validE e=2:=by unfold validE;rw [if_pos ⟨h0,.inr h4⟩]
       rw [x]
       simp [hb,h24',h4]
     · have x:validE e=0:=by unfold validE;rw [if_neg (fun h=>by rcases h.2 with h | h;exact h24 h;exact h4 h),h0]
       rw [x]
       simp [hb,h24',h4]
 · have x:validE e=firstE nodeE (pre e):=by unfold validE;rw [if_neg (fun h=>h0 h.1)]
   rw [x]
   simp [hb,h0]
end Go.Proofs.YtkodonalmdmgpaaGreatDoor
end
