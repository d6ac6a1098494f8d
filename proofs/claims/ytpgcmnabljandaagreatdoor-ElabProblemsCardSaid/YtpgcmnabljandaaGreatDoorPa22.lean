/- A part of the proof. -/
import Derived.Test.YtpgcmnabljandaaGreatDoorPa16
import Derived.Test.YtpgcmnabljandaaGreatDoorPa21
set_option linter.unusedVariables false
set_option linter.unusedSimpArgs false
set_option maxRecDepth 100000
set_option maxHeartbeats 20000000
set_option linter.defProp false
attribute [local simp] Go.Abs.acells Go.Abs.fin Go.Abs.zh Go.Abs.ze Go.Abs.pl1 Go.Abs.plain Go.Abs.pl2 Go.Abs.AV.atom
section
namespace Go.Proofs.YtpgcmnabljandaaGreatDoor
open Go Go.Abs
def jM (op:Int):Bool:=decide (op=2\/op=3\/op=24)
theorem qm3 (op:Int):PZ 282 [.int .i64 op] (.bool (jM op)):=by
 refine Pure.vc qg Tryz.func282 rfl (by kernel_rfl) ?_;by_cases o2:op=2
 . subst o2;simp[jM]
 by_cases o3:op=3
 . subst o3;simp[jM]
 by_cases o24:op=24
 . subst o24;simp[jM]
 simp[jM,o2,o3,o24]
theorem qn6 (op:Int)(h1:¬ op<1)(h2:¬ 25<op):PZ 346 [.int .i64 op] (.int .i64 (zN op)):=by
 refine Pure.k qg Tryz.func346 rfl (by kernel_rfl) ?_;have:op=1\/op=2\/op=3\/op=4\/op=5\/op=6\/op=7\/op=8\/op=9\/op=10\/op=11\/op=12\/op=13\/op=14\/op=15\/op=16\/op=17\/op=18\/op=19\/op=20\/op=21\/op=22\/op=23\/op=24\/op=25:=by omega
 rcases this with rfl|rfl|rfl|rfl|rfl|rfl|rfl|rfl|rfl|rfl|rfl|rfl|rfl|rfl|rfl|rfl|rfl|rfl|rfl|rfl|rfl|rfl|rfl|rfl|rfl<;>simp[zN]
theorem qlS (e:Ex)(hs:Fits e.name):PZ 291 [.agg (qz e)] (.int .i64 (qw e)):=by
 refine Pure.vc qg Tryz.func291 rfl (by kernel_rfl) ?_;have hvar:=qbe e.name hs;have hnam:=yl e.name hs;have hnd:=qm3 e.op;rw[qa];obtain⟨op,n,s,a⟩:=e;simp only[Ex.op_mk,Ex.n_mk,Ex.name_mk,Ex.args_mk]at hnd hvar hnam hs ⊢;have ht:(a.length:Int).tmod 2=((a.length % 2:Nat):Int):=rfl;by_cases c1:op<1
 . have x:qw (.mk op n s a)=1:=(by simp[qw,c1]);rw[x];simp[c1]
 by_cases c2:25<op
 . have x:qw (.mk op n s a)=1:=(by simp[qw,c2]);rw[x];simp[c1,c2]
 have har:=qn6 op c1 c2;by_cases n1:n<0
 . have x:qw (.mk op n s a)=1:=by
    by_cases o1:op=1
    . simp[qw,o1,n1]
    . simp[qw,c1,c2,o1,show ¬ n=0 by omega]
   rw[x];simp[c1,c2,n1]
 by_cases n2:65535<n
 . have x:qw (.mk op n s a)=1:=by
    by_cases o1:op=1
    . simp[qw,o1,n2]
    . simp[qw,c1,c2,o1,show ¬ n=0 by omega]
   rw[x];simp[c1,c2,n1,n2]
 by_cases hnm:s=[]
 . subst hnm;by_cases o1:op=1
   . subst o1;by_cases n0:n=0
     . subst n0;simp[];refine qe.call har (by simp) ?_;by_cases hl:(a.length:Int)=zN 1
       rotate_left
       . have ho:qm (.mk 1 0 [] a)=false:=(by simp[qm,hl]);have x:qw (.mk 1 0 [] a)=1:=(by simp[qw,ho]);rw[x];simp[hl]
       have ho:qm (.mk 1 0 [] a)=true:=(by simp[qm,hl]);simp[hl];refine qe.call hnd (by simp) ?_;have hndf:jM 1=false:=(by simp[jM]);have x:qw (.mk 1 0 [] a)=0:=(by (simp[qw,ho]<;>omega));rw[x,hndf];simp
     . skip
       simp[n0,n1,n2];refine qe.call har (by simp) ?_;by_cases hl:(a.length:Int)=zN 1
       rotate_left
       . have ho:qm (.mk 1 n [] a)=false:=(by simp[qm,hl]);have x:qw (.mk 1 n [] a)=1:=(by simp[qw,ho]);rw[x];simp[hl]
       have ho:qm (.mk 1 n [] a)=true:=(by simp[qm,hl]);simp[hl];refine qe.call hnd (by simp) ?_;have hndf:jM 1=false:=(by simp[jM]);have x:qw (.mk 1 n [] a)=0:=(by (simp[qw,ho]<;>omega));rw[x,hndf];simp
   by_cases n0:n=0
   rotate_left
   . have x:qw (.mk op n [] a)=1:=(by simp[qw,o1,n0]);rw[x];have b1:(op==1)=false:=(by simpa using o1);have b1':(op != 1)=true:=(by simpa using o1);have bn:(n != 0)=true:=(by simpa using n0);simp[c1,c2,n1,n2,n0,o1,b1,b1',bn]
   subst n0;by_cases o2:op=2
   . subst o2;simp[];refine qe.call har (by simp) ?_;by_cases hl:(a.length:Int)=zN 2
     rotate_left
     . have ho:qm (.mk 2 0 [] a)=false:=(by simp[qm,hl]);have x:qw (.mk 2 0 [] a)=1:=(by simp[qw,ho]);rw[x];simp[hl]
     have ho:qm (.mk 2 0 [] a)=true:=(by simp[qm,hl]);simp[hl];refine qe.call hvar (by simp) ?_;cases hv:js []
     . have x:qw (.mk 2 0 [] a)=7:=(by simp[qw,ho,hv]);rw[x];simp
     . have x:qw (.mk 2 0 [] a)=0:=(by simp[qw,ho,hv]);rw[x];simp;refine qe.call hnd (by simp) ?_;simp[jM]
   by_cases o3:op=3
   . subst o3;simp[];refine qe.call har (by simp) ?_;by_cases hl:(a.length:Int)=zN 3
     rotate_left
     . have ho:qm (.mk 3 0 [] a)=false:=(by simp[qm,hl]);have x:qw (.mk 3 0 [] a)=1:=(by simp[qw,ho]);rw[x];simp[hl]
     have ho:qm (.mk 3 0 [] a)=true:=(by simp[qm,hl]);simp[hl];refine qe.call hnd (by simp) ?_;simp[jM];refine qe.call hnam (by simp) ?_;cases hv:qO []
     . have x:qw (.mk 3 0 [] a)=7:=(by simp[qw,ho,hv]);rw[x];simp
     . have x:qw (.mk 3 0 [] a)=0:=(by simp[qw,ho,hv]);rw[x];simp
   by_cases o24:op=24
   . subst o24;simp[];refine qe.call har (by simp) ?_;by_cases hl:(a.length:Int)=zN 24
     rotate_left
     . have ho:qm (.mk 24 0 [] a)=false:=(by simp[qm,hl]);have x:qw (.mk 24 0 [] a)=1:=(by simp[qw,ho]);rw[x];simp[hl]
     have ho:qm (.mk 24 0 [] a)=true:=(by simp[qm,hl]);simp[hl];refine qe.call hnd (by simp) ?_;simp[jM];refine qe.call hnam (by simp) ?_;cases hv:qO []
     . have x:qw (.mk 24 0 [] a)=7:=(by simp[qw,ho,hv]);rw[x];simp
     . have x:qw (.mk 24 0 [] a)=0:=(by simp[qw,ho,hv]);rw[x];simp
   by_cases o23:op=23
   . subst o23;by_cases l1:a.length<3
     . have l1':(a.length:Int)<3:=(by omega);have l1'':¬ (3:Int)<=a.length:=(by omega);have ho:qm (.mk 23 0 [] a)=false:=(by show decide (a.length % 2=1/\3<=a.length/\a.length<=33)=false;exact decide_eq_false (by omega));have x:qw (.mk 23 0 [] a)=1:=(by simp[qw,ho]);rw[x];simp[l1',l1'']
     have l1':¬ (a.length:Int)<3:=(by omega);have l1'':(3:Int)<=a.length:=(by omega);by_cases l2:33<a.length
     . have l2':(33:Int)<a.length:=(by omega);have l2'':¬ (a.length:Int)<=33:=(by omega);have ho:qm (.mk 23 0 [] a)=false:=(by show decide (a.length % 2=1/\3<=a.length/\a.length<=33)=false;exact decide_eq_false (by omega));have x:qw (.mk 23 0 [] a)=1:=(by simp[qw,ho]);rw[x];simp[l1',l1'',l2',l2'']
     have l2':¬ (33:Int)<a.length:=(by omega);have l2'':(a.length:Int)<=33:=(by omega);by_cases l3:a.length % 2=0
     . have l3':(a.length:Int) % 2=0:=(by omega);have l4:(a.length:Int).tmod 2=0:=(by rw[ht];omega);have ho:qm (.mk 23 0 [] a)=false:=(by show decide (a.length % 2=1/\3<=a.length/\a.length<=33)=false;exact decide_eq_false (by omega));have x:qw (.mk 23 0 [] a)=1:=(by simp[qw,ho]);rw[x];simp[l1',l1'',l2',l2'',l3',l4]
     have l3':¬ (a.length:Int) % 2=0:=(by omega);have l4:¬ (a.length:Int).tmod 2=0:=(by rw[ht];omega);have ho:qm (.mk 23 0 [] a)=true:=(by show decide (a.length % 2=1/\3<=a.length/\a.length<=33)=true;exact decide_eq_true (by omega));simp[l1',l1'',l2',l2'',l3',l4];refine qe.call hnd (by simp) ?_;have hndf:jM 23=false:=(by simp[jM]);have x:qw (.mk 23 0 [] a)=0:=(by simp[qw,ho,c1,c2]);rw[x,hndf];simp
   have b1:(op==1)=false:=(by simpa using o1);have b1':(op != 1)=true:=(by simpa using o1);have b2:(op==2)=false:=(by simpa using o2);have b2':(op != 2)=true:=(by simpa using o2);have b3:(op==3)=false:=(by simpa using o3);have b3':(op != 3)=true:=(by simpa using o3);have b24:(op==24)=false:=(by simpa using o24);have b24':(op != 24)=true:=(by simpa using o24);have b23:(op==23)=false:=(by simpa using o23);have b23':(op != 23)=true:=(by simpa using o23);simp[c1,c2,o1,o2,o3,o24,o23,b1,b2,b3,b24,b23,b1',b2',b3',b24',b23'];refine qe.call har (by simp) ?_;by_cases hl:(a.length:Int)=zN op
   rotate_left
   . have ho:qm (.mk op 0 [] a)=false:=(by simp[qm,hl,o1,o2,o3,o24,o23]);have x:qw (.mk op 0 [] a)=1:=(by simp[qw,ho]);rw[x];simp[hl]
   have ho:qm (.mk op 0 [] a)=true:=(by simp[qm,hl,o1,o2,o3,o24,o23]);simp[hl,o1,o2,o3,o24,o23];refine qe.call hnd (by simp) ?_;have hndf:jM op=false:=(by simp[jM,o1,o2,o3,o24,o23]);have x:qw (.mk op 0 [] a)=0:=(by simp[qw,ho,c1,c2,o1,o2,o3,o24,o23]);rw[x,hndf];simp
 . have hie:s.isEmpty=false:=(by simpa using hnm);by_cases o1:op=1
   . subst o1;have x:qw (.mk 1 n s a)=1:=(by simp[qw,hnm]);rw[x];by_cases n0:n=0
     . subst n0;simp[n1,n2,hnm,hie];refine qe.call hnd (by simp) ?_;simp[jM]
     . skip
       simp[n1,n2,hnm,hie,n0];refine qe.call hnd (by simp) ?_;simp[jM]
   by_cases n0:n=0
   rotate_left
   . have x:qw (.mk op n s a)=1:=(by simp[qw,o1,n0]);rw[x];have b1:(op==1)=false:=(by simpa using o1);have b1':(op != 1)=true:=(by simpa using o1);have bn:(n != 0)=true:=(by simpa using n0);simp[c1,c2,n1,n2,n0,o1,b1,b1',bn]
   subst n0;by_cases o2:op=2
   . subst o2;simp[hnm,hie];refine qe.call hnd (by simp) ?_;simp[jM];refine qe.call har (by simp) ?_;by_cases hl:(a.length:Int)=zN 2
     rotate_left
     . have ho:qm (.mk 2 0 s a)=false:=(by simp[qm,hl]);have x:qw (.mk 2 0 s a)=1:=(by simp[qw,ho]);rw[x];simp[hl]
     have ho:qm (.mk 2 0 s a)=true:=(by simp[qm,hl]);simp[hl];refine qe.call hvar (by simp) ?_;cases hv:js s
     . have x:qw (.mk 2 0 s a)=7:=(by simp[qw,ho,hv]);rw[x];simp
     . have x:qw (.mk 2 0 s a)=0:=(by simp[qw,ho,hv]);rw[x];simp;refine qe.call hnd (by simp) ?_;simp[jM]
   by_cases o3:op=3
   . subst o3;simp[hnm,hie];refine qe.call hnd (by simp) ?_;simp[jM];refine qe.call har (by simp) ?_;by_cases hl:(a.length:Int)=zN 3
     rotate_left
     . have ho:qm (.mk 3 0 s a)=false:=(by simp[qm,hl]);have x:qw (.mk 3 0 s a)=1:=(by simp[qw,ho]);rw[x];simp[hl]
     have ho:qm (.mk 3 0 s a)=true:=(by simp[qm,hl]);simp[hl];refine qe.call hnd (by simp) ?_;simp[jM];refine qe.call hnam (by simp) ?_;cases hv:qO s
     . have x:qw (.mk 3 0 s a)=7:=(by simp[qw,ho,hv]);rw[x];simp
     . have x:qw (.mk 3 0 s a)=0:=(by simp[qw,ho,hv]);rw[x];simp
   by_cases o24:op=24
   . subst o24;simp[hnm,hie];refine qe.call hnd (by simp) ?_;simp[jM];refine qe.call har (by simp) ?_;by_cases hl:(a.length:Int)=zN 24
     rotate_left
     . have ho:qm (.mk 24 0 s a)=false:=(by simp[qm,hl]);have x:qw (.mk 24 0 s a)=1:=(by simp[qw,ho]);rw[x];simp[hl]
     have ho:qm (.mk 24 0 s a)=true:=(by simp[qm,hl]);simp[hl];refine qe.call hnd (by simp) ?_;simp[jM];refine qe.call hnam (by simp) ?_;cases hv:qO s
     . have x:qw (.mk 24 0 s a)=7:=(by simp[qw,ho,hv]);rw[x];simp
     . have x:qw (.mk 24 0 s a)=0:=(by simp[qw,ho,hv]);rw[x];simp
   by_cases o23:op=23
   . subst o23;have x:qw (.mk 23 0 s a)=1:=(by simp[qw,hnm]);rw[x];simp[hnm,hie];refine qe.call hnd (by simp) ?_;simp[jM]
   have b1:(op==1)=false:=(by simpa using o1);have b1':(op != 1)=true:=(by simpa using o1);have b2:(op==2)=false:=(by simpa using o2);have b2':(op != 2)=true:=(by simpa using o2);have b3:(op==3)=false:=(by simpa using o3);have b3':(op != 3)=true:=(by simpa using o3);have b24:(op==24)=false:=(by simpa using o24);have b24':(op != 24)=true:=(by simpa using o24);have b23:(op==23)=false:=(by simpa using o23);have b23':(op != 23)=true:=(by simpa using o23);have x:qw (.mk op 0 s a)=1:=(by simp[qw,c1,c2,o1,o2,o3,o24,o23,hnm]);rw[x];simp[c1,c2,o1,o2,o3,o24,o23,b1,b2,b3,b24,b23,b1',b2',b3',b24',b23',hnm,hie];refine qe.call hnd (by simp) ?_;simp[jM,o2,o3,o24]
def slS (V:List Str)(tv:Option Nat):AV:=match tv with
 | none=>.sl 0 [] .nil
 | some t=>.sl 1 (V.map qs) (.chain t V.length)
def TT (V:List Str)(tv:Option Nat)(T:List (Option Nat)):Prop:=match tv with
 | none=>V=[]
 | some t=>V≠[]/\T[t]?=some (some V.length)
structure OS (b:Nat)(n d f:Int)(V A:List Str)(tv ta:Option Nat)(O0 O:St):Prop where
 hb:O.H[b]?=some (.cells [.int .i64 n,.int .i64 d,.int .i64 f,slS V tv,slS A ta])
 tV:TT V tv O.T
 tA:TT A ta O.T
 dis:tv≠none->tv≠ta
 len:O0.H.length<=O.H.length
 ext:∀ x,x≠b->x<O0.H.length->O.H[x]?=O0.H[x]?
structure SS (b be:Nat)(e:Ex)(n d f:Int)(V A:List Str)(tv ta:Option Nat)(O0 O:St):Prop extends OS b n d f V A tv ta O0 O where
 hbe:O.H[be]?=some (.cells (qz e))
 ne:be≠b
 old:O0.H.length<=be
theorem SS.set {b be:Nat}{e:Ex}{n d f n' d' f':Int}{V A V' A':List Str}{tv ta tv' ta':Option Nat}{O0 O:St}{T:List (Option Nat)}(h:SS b be e n d f V A tv ta O0 O)
 (hV:TT V' tv' T) (hA:TT A' ta' T) (hd:tv'≠none->tv'≠ta') :
 SS b be e n' d' f' V' A' tv' ta' O0 ⟨O.H.set b (.cells [.int .i64 n',.int .i64 d',.int .i64 f',slS V' tv',slS A' ta']),T⟩:=by
 have hlt:=(qqV.1 h.hb).1;refine⟨⟨?_,hV,hA,hd,by simpa using h.len,fun x hx hl=>?_⟩,?_,h.ne,h.old⟩
 . simp[hlt]
 . simp only[qr8];rw[if_neg (fun e=>hx e.symm)];exact h.ext x hx hl
 . simp only[qr8];rw[if_neg (fun e=>h.ne e.symm)];exact h.hbe
theorem TT.push {A:List Str}{ta:Option Nat}{T:List (Option Nat)}{x:Option Nat}(h:TT A ta T):TT A ta (T++[x]):=by
 cases ta with
 | none=>exact h
 | some t=>exact⟨h.1,by rw[qrc (qqV.1 h.2).1];exact h.2⟩
theorem TT.set {A:List Str}{ta:Option Nat}{T:List (Option Nat)}{t:Nat}{x:Option Nat}(h:TT A ta T)(hn:some t≠ta):TT A ta (T.set t x):=by
 cases ta with
 | none=>exact h
 | some u=>
  refine⟨h.1,?_⟩;rw[qr8,if_neg (fun e=>hn (by rw[e]))];exact h.2
theorem TT.ne {A:List Str}{ta:Option Nat}{T:List (Option Nat)}(h:TT A ta T):some T.length≠ta:=by
 intro e;subst e;have:=(qqV.1 h.2).1;omega
theorem TT.one {s:Str}{T:List (Option Nat)}:TT [s] (some T.length) (T++[some 1]):=⟨by simp,by simp⟩
theorem TT.more {V:List Str}{s:Str}{t:Nat}{T:List (Option Nat)}(h:TT V (some t) T):TT (V++[s]) (some t) (T.set t (some (V.length+1))) :=
 ⟨by simp,by simp[(qqV.1 h.2).1]⟩
theorem OS.self {b:Nat}{n d f:Int}{V A:List Str}{tv ta:Option Nat}{O0 O:St}(h:OS b n d f V A tv ta O0 O):OS b n d f V A tv ta O O :=
 ⟨h.hb,h.tV,h.tA,h.dis,qrn _,fun _ _ _=>rfl⟩
theorem SS.then {b be:Nat}{e:Ex}{n d f n' d' f':Int}{V A V' A':List Str}{tv ta tv' ta':Option Nat}{O0 O O':St}(h:SS b be e n d f V A tv ta O0 O)(h':OS b n' d' f' V' A' tv' ta' O O'):SS b be e n' d' f' V' A' tv' ta' O0 O':=by
 refine⟨⟨h'.hb,h'.tV,h'.tA,h'.dis,qrN h.len h'.len,fun x hx hl=>?_⟩,?_,h.ne,h.old⟩
 . rw[h'.ext x hx (qta hl h.len)];exact h.ext x hx hl
 . rw[h'.ext be h.ne (qqV.1 h.hbe).1];exact h.hbe
noncomputable def fst (f:Int)(l:List Ex):Int:=if f=0 then qh qw l else f
theorem qh8 {f:Int}{l m:List Ex}:fst f (l++m)=if fst f l=0 then qh qw m else fst f l:=by
 unfold fst;by_cases h:f=0
 . simp only[if_pos h,qT]
 . simp only[if_neg h]
theorem see235:∀ (e:Ex),Wen e->∀ (O0:St) (b:Nat) (n d f:Int) (V A:List Str) (tv ta:Option Nat) (dp:Int) (m:Nat),OS b n d f V A tv ta O0 O0->V.length+A.length<=m->m+(pre e).length<=100000->0<=dp->dp+hgt e<=1000000 ->
 qq Zp GG 235 [.ptr b 0,.agg (qz e),.int .i64 dp] O0 (fun r O=>∃ V' A' tv' ta',OS b (IntKind.i64.wrap (n+(pre e).length)) (max d (dp+hgt e-1)) (if f=0 then qh qw (pre e) else f) V' A' tv' ta' O0 O/\V'.length+A'.length<=m+(pre e).length):=by
 refine Ex.ind fun e ih hwe O0 b n d f V A tv ta dp m hos hm1 hm2 hdp hdh=>?_
 have hlt:=(qqV.1 hos.hb).1;refine qq.vc qg Tryz.func235 rfl (by kernel_rfl) ?_
 -- the box
 refine Vs (fun env O=>env 0=.ptr b 0/\env 2=.int .i64 dp/\env 4=.ptr O0.H.length 0/\SS b O0.H.length e n d f V A tv ta O0 O) rfl ?_ ?_
 . simp[qa e];refine⟨⟨by rw[qrc hlt];exact hos.hb,hos.tV,hos.tA,hos.dis,by simp,fun x hx hl=>by rw[qrc hl]⟩,by simp[qa e],by omega,qrn _⟩
 rintro env O ⟨h0,h2,h4,hs⟩
 -- the number of nodes
 refine Vs (fun env O=>env 0=.ptr b 0/\env 2=.int .i64 dp/\env 4=.ptr O0.H.length 0/\SS b O0.H.length e (IntKind.i64.wrap (n+1)) d f V A tv ta O0 O) rfl ?_ ?_
 . simp[h0,h2,h4,hs.hb];exact hs.set hs.tV hs.tA hs.dis
 clear h0 h2 h4 hs;rintro env O ⟨h0,h2,h4,hs⟩
 -- the depth
 refine Vs (fun env O=>env 0=.ptr b 0/\env 2=.int .i64 dp/\env 4=.ptr O0.H.length 0/\SS b O0.H.length e (IntKind.i64.wrap (n+1)) (max d dp) f V A tv ta O0 O) rfl ?_ ?_
 . by_cases hd:d<dp
   . simp[h0,h2,h4,hs.hb,hd];have:max d dp=dp:=by omega
     rw[this];exact hs.set hs.tV hs.tA hs.dis
   . simp[h0,h2,h4,hs.hb,hd];have:max d dp=d:=by omega
     rw[this];exact hs
 clear h0 h2 h4 hs;rintro env O ⟨h0,h2,h4,hs⟩
 -- the first error
 refine Vs (fun env O=>env 0=.ptr b 0/\env 2=.int .i64 dp/\env 4=.ptr O0.H.length 0/\SS b O0.H.length e (IntKind.i64.wrap (n+1)) (max d dp) (if f=0 then qw e else f) V A tv ta O0 O) rfl ?_ ?_
 . by_cases hf:f=0
   . subst hf;have hbe:=hs.hbe;rw[qa]at hbe;simp[h0,h2,h4,hs.hb,hbe];rw[<- qa e];refine qe.call (qlS e hwe.nm) (by simp) ?_;simp[hs.hb];exact hs.set hs.tV hs.tA hs.dis
   . simp[h0,h2,h4,hs.hb,hf];exact hs
 clear h0 h2 h4 hs;rintro env O ⟨h0,h2,h4,hs⟩
 -- a variable's name
 refine Vs (fun env O=>env 0=.ptr b 0/\env 2=.int .i64 dp/\env 4=.ptr O0.H.length 0/\∃ V' tv',SS b O0.H.length e (IntKind.i64.wrap (n+1)) (max d dp) (if f=0 then qw e else f) V' A tv' ta O0 O/\V'.length<=V.length+(if e.op=2 then 1 else 0)) rfl ?_ ?_
 . have hbe:=hs.hbe;rw[qa]at hbe;by_cases o2:e.op=2
   . cases tv with
     | none=>
      have hV:V=[]:=hs.tV;subst hV;have hb:=hs.hb;simp only[slS]at hb;simp[h0,h4,hb,hbe,o2];refine qe.less (qgC GG [] e.name (by simp)) (by simp) (by simp[Leq]) ?_;simp[h0,h2,h4,hb,hbe,qt,qI,zc,zD];refine⟨[e.name],⟨some O.T.length,?_⟩,by simp⟩;have:=hs.set (n':=IntKind.i64.wrap (n+1)) (d':=max d dp) (f':=if f=0 then qw e else f) (TT.one (s:=e.name) (T:=O.T)) (hs.tA.push (x:=some 1)) (fun _=>hs.tA.ne);simpa[slS] using this
     | some t=>
      have hb:=hs.hb;simp only[slS]at hb;have htV:=hs.tV.2;have hV0:=hs.tV.1;simp[h0,h4,hb,hbe,o2];refine qe.pure (qgC GG V e.name (by omega)) (by simp) (by simp) ?_;cases hh:V.any (· == e.name)
      . have hbd:V.length+1<=1073741824:=(by omega);simp[h0,h2,h4,hb,hbe,qt,qI,zc,zD,htV,hbd];refine⟨V++[e.name],⟨some t,?_⟩,by simp⟩;have:=hs.set (n':=IntKind.i64.wrap (n+1)) (d':=max d dp) (f':=if f=0 then qw e else f) (TT.more (s:=e.name) hs.tV) (hs.tA.set (t:=t) (x:=some (V.length+1)) (hs.dis (by simp))) (fun _=>hs.dis (by simp));simpa[slS] using this
      . simp[h0,h2,h4];exact⟨V,⟨some t,hs⟩,by omega⟩
   . simp[h0,h2,h4,hs.hb,hbe,o2];exact⟨V,⟨tv,hs⟩,qrn _⟩
 clear h0 h2 h4 hs;rintro env O ⟨h0,h2,h4,V1,tv1,hs,hVl⟩;have hVA:V1.length+A.length<=m+(if e.op=2 then 1 else 0):=by omega
 have hdisA:∀ u,ta=some u->some u≠tv1:=fun u hu e=>by
  have:=hs.dis (by rw[<- e];simp);exact this (by rw[hu,<- e])
 -- an array's name
 refine Vs (fun env O=>env 0=.ptr b 0/\env 2=.int .i64 dp/\env 4=.ptr O0.H.length 0/\∃ A' ta',SS b O0.H.length e (IntKind.i64.wrap (n+1)) (max d dp) (if f=0 then qw e else f) V1 A' tv1 ta' O0 O/\A'.length<=A.length+(if e.op=3\/e.op=24 then 1 else 0)) rfl ?_ ?_
 . have hbe:=hs.hbe;rw[qa]at hbe;have main:(e.op=3\/e.op=24)->(e.op==3||e.op==24)=true:=fun h=>by rcases h with h | h<;>simp[h]
   by_cases o3:e.op=3\/e.op=24
   . rcases o3 with o3|o3
     all_goals
      have hif:(if e.op=3\/e.op=24 then (1:Nat) else 0)=1:=(by simp[o3])
      cases ta with
      | none=>
       have hA:A=[]:=hs.tA;subst hA;have hb:=hs.hb;simp only[slS]at hb;simp[h0,h4,hb,hbe,o3];refine qe.less (qgC GG [] e.name (by simp)) (by simp) (by simp[Leq]) ?_;simp[h0,h2,h4,hb,hbe,o3,qt,qI,zc,zD];refine⟨[e.name],⟨some O.T.length,?_⟩,by simp⟩;have:=hs.set (n':=IntKind.i64.wrap (n+1)) (d':=max d dp) (f':=if f=0 then qw e else f) (hs.tV.push (x:=some 1)) (TT.one (s:=e.name) (T:=O.T)) (fun _ e=>hs.tV.ne e.symm);simpa[slS] using this
      | some t=>
       have hb:=hs.hb;simp only[slS]at hb;have htA:=hs.tA.2;simp[h0,h4,hb,hbe,o3];refine qe.pure (qgC GG A e.name (by omega)) (by simp) (by simp) ?_;cases hh:A.any (· == e.name)
       . have hbd:A.length+1<=1073741824:=(by omega);simp[h0,h2,h4,hb,hbe,o3,qt,qI,zc,zD,htA,hbd];refine⟨A++[e.name],⟨some t,?_⟩,by simp⟩;have:=hs.set (n':=IntKind.i64.wrap (n+1)) (d':=max d dp) (f':=if f=0 then qw e else f) (hs.tV.set (t:=t) (x:=some (A.length+1)) (hdisA t rfl)) (TT.more (s:=e.name) hs.tA) (fun h=>hs.dis h);simpa[slS] using this
       . simp[h0,h2,h4];exact⟨A,⟨some t,hs⟩,by omega⟩
   . have o3':¬ e.op=3:=fun h=>o3 (.inl h)
     have o24':¬ e.op=24:=fun h=>o3 (.inr h)
     simp[h0,h2,h4,hs.hb,hbe,o3',o24'];exact⟨A,⟨ta,hs⟩,qrn _⟩
 clear h0 h2 h4 hs;rintro env O ⟨h0,h2,h4,A1,ta1,hs,hAl⟩;have hVA1:V1.length+A1.length<=m+1:=by
  by_cases o2:e.op=2
  . rw[if_pos o2]at hVl;rw[if_neg (by omega)]at hAl;omega
  . rw[if_neg o2]at hVl;split at hAl<;>omega
 clear hVA hVl hAl hdisA;have hl:=hwe.fits;have hf0:(if f=0 then qw e else f)=fst f [e]:=by
  unfold fst;by_cases h:f=0
  . simp only[if_pos h,qh];split
    . assumption
    . rfl
  . simp only[if_neg h]
 rw[hf0]at hs;have hlen:(pre e).length=(ki e.args).length+1:=by rw[zb,qq5]
 simp;refine qC.intro (fun q env O=>∃ i V2 A2 tv2 ta2,i<=e.args.length/\q=e.args.length-i/\env 0=.ptr b 0/\env 2=.int .i64 dp/\env 4=.ptr O0.H.length 0/\env 6=.int .i64 i/\SS b O0.H.length e (IntKind.i64.wrap (n+((ki (e.args.take i)).length+1:Nat))) (max d (dp+Z4 (e.args.take i))) (fst f (e::ki (e.args.take i))) V2 A2 tv2 ta2 O0 O/\V2.length+A2.length<=m+1+(ki (e.args.take i)).length) e.args.length ⟨0,V1,A1,tv1,ta1,by simp,by simp,by simp[h0],by simp[h2],by simp[h4],by simp,by simpa using hs,by simpa using hVA1⟩ ?_;clear h0 h2 h4 hs hVA1;rintro q env O ⟨i,V2,A2,tv2,ta2,hi,rfl,h0,h2,h4,h6,hs,hva⟩;have hbe:=hs.hbe;rw[qa]at hbe
 cases hv:e.args[i]? with
 | some a=>
  obtain⟨hc,hv'⟩:=qqV.1 hv;have hma:=qqW hv;have hlt2:=qkz hma;have etake:e.args.take (i+1)=e.args.take i++[a]:=by rw[qrB,hv];rfl
  have epre:ki (e.args.take (i+1))=ki (e.args.take i)++pre a:=by rw[etake,yO];simp
  have ehgt:Z4 (e.args.take (i+1))=max (Z4 (e.args.take i)) (hgt a):=by rw[etake,Wn];simp
  have hsub:(ki (e.args.take i)).length+(pre a).length<=(ki e.args).length:=by
   have:e.args=e.args.take (i+1)++e.args.drop (i+1):=(qsl _ _).symm;have e2:(ki e.args).length=(ki (e.args.take (i+1))).length+(ki (e.args.drop (i+1))).length:=by
    conv=>lhs;rw[this,yO,qqY]
   rw[epre,qqY]at e2;omega
  have hwd:IntKind.i64.wrap (dp+1)=dp+1:=wr (by omega) (by omega);simp[h0,h2,h4,h6,hbe,hc,hv',qa a,hwd];rw[<- qa a];refine qq.imp (ih a hma (hwe.arg hma) O b _ _ _ V2 A2 tv2 ta2 (dp+1) (m+1+(ki (e.args.take i)).length) hs.toOS.self hva (by omega) (by omega) (by omega)) ?_;rintro r O' ⟨V',A',tv',ta',hos',hva'⟩
  try simp[h0,h2,h4,h6]
  refine⟨_,by omega,i+1,by omega,rfl,wr (by omega) (by omega),V',A',⟨tv',ta',?_⟩,?_⟩
  . have h:=hs.then hos';have e1:IntKind.i64.wrap (IntKind.i64.wrap (n+((ki (e.args.take i)).length+1:Nat))+(pre a).length)=IntKind.i64.wrap (n+((ki (e.args.take (i+1))).length+1)):=by
     rw[qfK,epre,qqY];congr 1;omega
    have e2:max (max d (dp+Z4 (e.args.take i))) (dp+1+hgt a-1)=max d (dp+Z4 (e.args.take (i+1))):=by
     rw[ehgt];omega
    have e3:(if fst f (e::ki (e.args.take i))=0 then qh qw (pre a) else fst f (e::ki (e.args.take i)))=fst f (e::ki (e.args.take (i+1))):=by
     rw[epre,<- qrd,qh8]
    rw[e1,e2,e3]at h;exact h
  . rw[epre,qqY];omega
 | none=>
  have hc:¬ i<e.args.length:=by simp at hv;omega
  have ht:e.args.take i=e.args:=qrb (by omega);rw[ht,<- hlen,<- zb]at hs;rw[ht]at hva;have e2:max d (dp+Z4 e.args)=max d (dp+hgt e-1):=by rw[jo e];omega
  rw[e2]at hs;simp[h4,h6,hbe,hc];exact⟨V2,A2,⟨tv2,ta2,hs.toOS⟩,by omega⟩
end Go.Proofs.YtpgcmnabljandaaGreatDoor
end
