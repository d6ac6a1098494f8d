import Derived.Test.YtfmdnopgncbmoaaGreatDoorPs12
import Derived.Test.YtfmdnopgncbmoaaGreatDoorPs09
set_option maxRecDepth 100000
set_option maxHeartbeats 20000000
set_option linter.all false
set_option linter.defProp false
namespace Go.Proofs.YtfmdnopgncbmoaaGreatDoor
open Go Go.Abs Tryz
def jo(op:Int):Bool:=decide (op=2\/op=3\/op=24)
def qlE(op):Pure prog GG 288 [.int .i64 op] (.bool (jo op)):=by
 refine qDb qe func288 rfl (by kernel_rfl) ?_;by_cases o2:op=2
 . subst o2;simp[jo]
 by_cases o3:op=3
 . subst o3;simp[jo]
 by_cases o24:op=24
 . subst o24;simp[jo]
 simp[jo,o2,o3,o24]
def qmY(op)(h1:¬op<1)(h2:¬25<op):Pure prog GG 289 [.int .i64 op] (.int .i64 (zm op)):=by
 refine qCL qe func289 rfl (by kernel_rfl) ?_;have:op=1\/op=2\/op=3\/op=4\/op=5\/op=6\/op=7\/op=8\/op=9\/op=10\/op=11\/op=12\/op=13\/op=14\/op=15\/op=16\/op=17\/op=18\/op=19\/op=20\/op=21\/op=22\/op=23\/op=24\/op=25:=by omega
 rcases this with rfl|rfl|rfl|rfl|rfl|rfl|rfl|rfl|rfl|rfl|rfl|rfl|rfl|rfl|rfl|rfl|rfl|rfl|rfl|rfl|rfl|rfl|rfl|rfl|rfl<;>simp[zm]
def qko(e)(hs:Fits e.name):Pure prog GG 228 [.agg (qt e)] (.int .i64 (qp e)):=by
 refine qDb qe func228 rfl (by kernel_rfl) ?_;have hvar:=qlY e.name hs;have hnam:=vH e.name hs;have hnd:=qlE e.op;rw[qd];obtain⟨op,n,s,a⟩:=e;simp only[qCH,Ex.n_mk,qCI,qCJ]at hnd hvar hnam hs⊢;have ht:(a.length:Int).tmod 2=((a.length%2:Nat):Int):=rfl;by_cases c1:op<1
 . have x:qp (.mk op n s a)=1:=(by simp[qp,c1]);rw[x];simp[c1]
 by_cases c2:25<op
 . have x:qp (.mk op n s a)=1:=(by simp[qp,c2]);rw[x];simp[c1,c2]
 have har:=qmY op c1 c2;by_cases n1:n<0
 . have x:qp (.mk op n s a)=1:=by
    by_cases o1:op=1
    . simp[qp,o1,n1]
    simp[qp,c1,c2,o1,show ¬n=0 by omega]
   rw[x];simp[c1,c2,n1]
 by_cases n2:65535<n
 . have x:qp (.mk op n s a)=1:=by
    by_cases o1:op=1
    . simp[qp,o1,n2]
    simp[qp,c1,c2,o1,show ¬n=0 by omega]
   rw[x];simp[c1,c2,n1,n2]
 by_cases hnm:s=[]
 . subst hnm;by_cases o1:op=1
   . subst o1;by_cases n0:n=0
     . subst n0;simp[];refine qCW har rfl ?_;by_cases hl:(a.length:Int)=zm 1
       rotate_left
       . have ho:qi (.mk 1 0 [] a)=false:=(by simp[qi,hl]);have x:qp (.mk 1 0 [] a)=1:=(by simp[qp,ho]);rw[x];simp[hl]
       have ho:qi (.mk 1 0 [] a)=true:=(by simp[qi,hl]);simp[hl];refine qCW hnd rfl ?_;have hndf:jo 1=false:=(by simp[jo]);have x:qp (.mk 1 0 [] a)=0:=(by(simp[qp,ho]<;>omega));rw[x,hndf];simp
     skip
     simp[n0,n1,n2];refine qCW har rfl ?_;by_cases hl:(a.length:Int)=zm 1
     rotate_left
     . have ho:qi (.mk 1 n [] a)=false:=(by simp[qi,hl]);have x:qp (.mk 1 n [] a)=1:=(by simp[qp,ho]);rw[x];simp[hl]
     have ho:qi (.mk 1 n [] a)=true:=(by simp[qi,hl]);simp[hl];refine qCW hnd rfl ?_;have hndf:jo 1=false:=(by simp[jo]);have x:qp (.mk 1 n [] a)=0:=(by(simp[qp,ho]<;>omega));rw[x,hndf];simp
   by_cases n0:n=0
   rotate_left
   . have x:qp (.mk op n [] a)=1:=(by simp[qp,o1,n0]);rw[x];have b1:(op==1)=false:=(by simpa using o1);have b1':(op != 1)=true:=(by simpa using o1);have bn:(n != 0)=true:=(by simpa using n0);simp[c1,c2,n1,n2,b1',bn]
   subst n0;by_cases o2:op=2
   . subst o2;simp[];refine qCW har rfl ?_;by_cases hl:(a.length:Int)=zm 2
     rotate_left
     . have ho:qi (.mk 2 0 [] a)=false:=(by simp[qi,hl]);have x:qp (.mk 2 0 [] a)=1:=(by simp[qp,ho]);rw[x];simp[hl]
     have ho:qi (.mk 2 0 [] a)=true:=(by simp[qi,hl]);simp[hl];refine qCW hvar rfl ?_;cases hv:kq []
     . have x:qp (.mk 2 0 [] a)=7:=(by simp[qp,ho,hv]);rw[x];simp
     have x:qp (.mk 2 0 [] a)=0:=(by simp[qp,ho,hv]);rw[x];simp;refine qCW hnd rfl ?_;simp[jo]
   by_cases o3:op=3
   . subst o3;simp[];refine qCW har rfl ?_;by_cases hl:(a.length:Int)=zm 3
     rotate_left
     . have ho:qi (.mk 3 0 [] a)=false:=(by simp[qi,hl]);have x:qp (.mk 3 0 [] a)=1:=(by simp[qp,ho]);rw[x];simp[hl]
     have ho:qi (.mk 3 0 [] a)=true:=(by simp[qi,hl]);simp[hl];refine qCW hnd rfl ?_;simp[jo];refine qCW hnam rfl ?_;cases hv:zQ []
     . have x:qp (.mk 3 0 [] a)=7:=(by simp[qp,ho,hv]);rw[x];simp
     have x:qp (.mk 3 0 [] a)=0:=(by simp[qp,ho,hv]);rw[x];simp
   by_cases o24:op=24
   . subst o24;simp[];refine qCW har rfl ?_;by_cases hl:(a.length:Int)=zm 24
     rotate_left
     . have ho:qi (.mk 24 0 [] a)=false:=(by simp[qi,hl]);have x:qp (.mk 24 0 [] a)=1:=(by simp[qp,ho]);rw[x];simp[hl]
     have ho:qi (.mk 24 0 [] a)=true:=(by simp[qi,hl]);simp[hl];refine qCW hnd rfl ?_;simp[jo];refine qCW hnam rfl ?_;cases hv:zQ []
     . have x:qp (.mk 24 0 [] a)=7:=(by simp[qp,ho,hv]);rw[x];simp
     have x:qp (.mk 24 0 [] a)=0:=(by simp[qp,ho,hv]);rw[x];simp
   by_cases o23:op=23
   . subst o23;by_cases l1:a.length<3
     . have l1':(a.length:Int)<3:=(by omega);have l1'':¬(3:Int)<=a.length:=(by omega);have ho:qi (.mk 23 0 [] a)=false:=(by show decide (a.length%2=1/\3<=a.length/\a.length<=33)=false;exact decide_eq_false (by omega));have x:qp (.mk 23 0 [] a)=1:=(by simp[qp,ho]);rw[x];simp[l1']
     have l1':¬(a.length:Int)<3:=(by omega);by_cases l2:33<a.length
     . have l2':(33:Int)<a.length:=(by omega);have l2'':¬(a.length:Int)<=33:=(by omega);have ho:qi (.mk 23 0 [] a)=false:=(by show decide (a.length%2=1/\3<=a.length/\a.length<=33)=false;exact decide_eq_false (by omega));have x:qp (.mk 23 0 [] a)=1:=(by simp[qp,ho]);rw[x];simp[l1',l2']
     have l2':¬(33:Int)<a.length:=(by omega);by_cases l3:a.length%2=0
     . have l3':(a.length:Int)%2=0:=(by omega);have l4:(a.length:Int).tmod 2=0:=(by rw[ht];omega);have ho:qi (.mk 23 0 [] a)=false:=(by show decide (a.length%2=1/\3<=a.length/\a.length<=33)=false;exact decide_eq_false (by omega));have x:qp (.mk 23 0 [] a)=1:=(by simp[qp,ho]);rw[x];simp[l1',l2',l4]
     have ho:qi (.mk 23 0 [] a)=true:=(by show decide (a.length%2=1/\3<=a.length/\a.length<=33)=true;exact decide_eq_true (by omega));simp[l1',l2',show ¬(a.length:Int).tmod 2=0 by rw[ht];omega];refine qCW hnd rfl ?_;have hndf:jo 23=false:=(by simp[jo]);have x:qp (.mk 23 0 [] a)=0:=(by simp[qp,ho,c1,c2]);rw[x,hndf];simp
   have b1:(op==1)=false:=(by simpa using o1);have b1':(op != 1)=true:=(by simpa using o1);have b2:(op==2)=false:=(by simpa using o2);have b2':(op != 2)=true:=(by simpa using o2);have b3:(op==3)=false:=(by simpa using o3);have b3':(op != 3)=true:=(by simpa using o3);have b24:(op==24)=false:=(by simpa using o24);have b24':(op != 24)=true:=(by simpa using o24);simp[c1,c2,show(op==23)=false by simpa using o23,show(op != 23)=true by simpa using o23];refine qCW har rfl ?_;by_cases hl:(a.length:Int)=zm op
   rotate_left
   . have ho:qi (.mk op 0 [] a)=false:=(by simp[qi,hl,o23]);have x:qp (.mk op 0 [] a)=1:=(by simp[qp,ho]);rw[x];simp[hl]
   have ho:qi (.mk op 0 [] a)=true:=(by simp[qi,hl,o23]);simp[hl,o2,o23];refine qCW hnd rfl ?_;have x:qp (.mk op 0 [] a)=0:=(by simp[qp,ho,c1,c2,o1,o2,o3,o24]);rw[x,show jo op=false by simp[jo,o2,o3,o24]];simp
 have hie:s.isEmpty=false:=by simpa using hnm
 by_cases o1:op=1
 . subst o1;have x:qp (.mk 1 n s a)=1:=(by simp[qp,hnm]);rw[x];by_cases n0:n=0
   . subst n0;simp[n1,n2,hie];refine qCW hnd rfl ?_;simp[jo]
   skip
   simp[n1,n2,hie,n0];refine qCW hnd rfl ?_;simp[jo]
 by_cases n0:n=0
 rotate_left
 . have x:qp (.mk op n s a)=1:=(by simp[qp,o1,n0]);rw[x];have b1:(op==1)=false:=(by simpa using o1);simp[c1,c2,n1,n2,show(op != 1)=true by simpa using o1,show(n != 0)=true by simpa using n0]
 subst n0;by_cases o2:op=2
 . subst o2;simp[hie];refine qCW hnd rfl ?_;simp[jo];refine qCW har rfl ?_;by_cases hl:(a.length:Int)=zm 2
   rotate_left
   . have ho:qi (.mk 2 0 s a)=false:=(by simp[qi,hl]);have x:qp (.mk 2 0 s a)=1:=(by simp[qp,ho]);rw[x];simp[hl]
   have ho:qi (.mk 2 0 s a)=true:=(by simp[qi,hl]);simp[hl];refine qCW hvar rfl ?_;cases hv:kq s
   . have x:qp (.mk 2 0 s a)=7:=(by simp[qp,ho,hv]);rw[x];simp
   have x:qp (.mk 2 0 s a)=0:=(by simp[qp,ho,hv]);rw[x];simp;refine qCW hnd rfl ?_;simp[jo]
 by_cases o3:op=3
 . subst o3;simp[hie];refine qCW hnd rfl ?_;simp[jo];refine qCW har rfl ?_;by_cases hl:(a.length:Int)=zm 3
   rotate_left
   . have ho:qi (.mk 3 0 s a)=false:=(by simp[qi,hl]);have x:qp (.mk 3 0 s a)=1:=(by simp[qp,ho]);rw[x];simp[hl]
   have ho:qi (.mk 3 0 s a)=true:=(by simp[qi,hl]);simp[hl];refine qCW hnd rfl ?_;simp[jo];refine qCW hnam rfl ?_;cases hv:zQ s
   . have x:qp (.mk 3 0 s a)=7:=(by simp[qp,ho,hv]);rw[x];simp
   have x:qp (.mk 3 0 s a)=0:=(by simp[qp,ho,hv]);rw[x];simp
 by_cases o24:op=24
 . subst o24;simp[hie];refine qCW hnd rfl ?_;simp[jo];refine qCW har rfl ?_;by_cases hl:(a.length:Int)=zm 24
   rotate_left
   . have ho:qi (.mk 24 0 s a)=false:=(by simp[qi,hl]);have x:qp (.mk 24 0 s a)=1:=(by simp[qp,ho]);rw[x];simp[hl]
   have ho:qi (.mk 24 0 s a)=true:=(by simp[qi,hl]);simp[hl];refine qCW hnd rfl ?_;simp[jo];refine qCW hnam rfl ?_;cases hv:zQ s
   . have x:qp (.mk 24 0 s a)=7:=(by simp[qp,ho,hv]);rw[x];simp
   have x:qp (.mk 24 0 s a)=0:=(by simp[qp,ho,hv]);rw[x];simp
 by_cases o23:op=23
 . subst o23;have x:qp (.mk 23 0 s a)=1:=(by simp[qp,hnm]);rw[x];simp[hie];refine qCW hnd rfl ?_;simp[jo]
 rw[show qp (.mk op 0 s a)=1 by simp[qp,c1,c2,o1,o2,o3,o24,hnm]];simp[c1,c2,hie];refine qCW hnd rfl ?_;simp[jo,o2,o3,o24]
def slS(V:List Str)(tv:Option Nat):AV:=match tv with
 |none=>.sl 0 [] .nil
 |some t=>.sl 1 (V.map z8) (.chain t V.length)
def TT(V:List Str)(tv:Option Nat)(T:List (Option Nat)):Prop:=match tv with
 |none=>V=[]
 |some t=>V≠[]/\T[t]?=some (some V.length)
structure OS(b:Nat)(n d f:Int)(V A:List Str)(tv ta:Option Nat)(U0 U:St):Prop where
 hb:U.H[b]?=some (.cells [.int .i64 n,.int .i64 d,.int .i64 f,slS V tv,slS A ta])
 tV:TT V tv U.T
 tA:TT A ta U.T
 dis:tv≠none->tv≠ta
 len:U0.H.length<=U.H.length
 ext:∀x,x≠b->x<U0.H.length->U.H[x]?=U0.H[x]?
structure SS(b be:Nat)(e:Ex)(n d f:Int)(V A:List Str)(tv ta:Option Nat)(U0 U:St):Prop extends OS b n d f V A tv ta U0 U where
 hbe:U.H[be]?=some (.cells (qt e))
 ne:be≠b
 old:U0.H.length<=be
def SS.set{b be:Nat}{e:Ex}{n d f n' d' f':Int}{V A V' A':List Str}{tv ta tv' ta':Option Nat}{U0 U:St}{T:List (Option Nat)}(h:SS b be e n d f V A tv ta U0 U)
 (hV:TT V' tv' T) (hA:TT A' ta' T) (hd:tv'≠none->tv'≠ta'):
 SS b be e n' d' f' V' A' tv' ta' U0 ⟨U.H.set b (.cells [.int .i64 n',.int .i64 d',.int .i64 f',slS V' tv',slS A' ta']),T⟩:=by
 have hlt:=(qyF.1 h.hb).1;refine⟨⟨?_,hV,hA,hd,by simpa using h.len,fun x hx hl=>?_⟩,?_,h.ne,h.old⟩
 . simp[hlt]
 . simp only[qBi];rw[if_neg (fun e=>hx e.symm)];exact h.ext x hx hl
 simp only[qBi];rw[if_neg (fun e=>h.ne e.symm)];exact h.hbe
def TT.push{A ta T x}(h:TT A ta T):TT A ta (T++[x]):=by
 cases ta with
 |none=>exact h
 |some t=>exact⟨h.1,by rw[qyT (qyF.1 h.2).1];exact h.2⟩
def TT.set{A ta T t x}(h:TT A ta T)(hn:some t≠ta):TT A ta (T.set t x):=by
 cases ta with
 |none=>exact h
 | some u=>
  refine⟨h.1,?_⟩;rw[qBi,if_neg (fun e=>hn (by rw[e]))];exact h.2
def TT.ne{A ta T}(h:TT A ta T):some T.length≠ta:=by
 intro e;subst e;have:=(qyF.1 h.2).1;omega
def TT.one{s T}:TT [s] (some T.length) (T++[some 1]):=⟨by simp,by simp⟩
def TT.more{V s t T}(h:TT V (some t) T):TT (V++[s]) (some t) (T.set t (some (V.length+1))) :=
 ⟨by simp,by simp[(qyF.1 h.2).1]⟩
def OS.self{b:Nat}{n d f:Int}{V A:List Str}{tv ta:Option Nat}{U0 U:St}(h:OS b n d f V A tv ta U0 U):OS b n d f V A tv ta U U :=
 ⟨h.hb,h.tV,h.tA,h.dis,qyQ _,fun _ _ _=>rfl⟩
def SS.then{b be:Nat}{e:Ex}{n d f n' d' f':Int}{V A V' A':List Str}{tv ta tv' ta':Option Nat}{U0 U U':St}(h:SS b be e n d f V A tv ta U0 U)(h':OS b n' d' f' V' A' tv' ta' U U'):SS b be e n' d' f' V' A' tv' ta' U0 U':=by
 refine⟨⟨h'.hb,h'.tV,h'.tA,h'.dis,qzs h.len h'.len,fun x hx hl=>?_⟩,?_,h.ne,h.old⟩
 . rw[h'.ext x hx (qyV hl h.len)];exact h.ext x hx hl
 rw[h'.ext be h.ne (qyF.1 h.hbe).1];exact h.hbe
noncomputable def fst(f:Int)(l:List Ex):Int:=if f=0 then qO qp l else f
def qf9{f l m}:fst f (l++m)=if fst f l=0 then qO qp m else fst f l:=by
 unfold fst;by_cases h:f=0
 . simp only[if_pos h,jQ]
 simp only[if_neg h]
def qhA(V:List Str)(x:Ex):List Str:=if x.op=2/\V.any (· == x.name)=false then V++[x.name] else V
def KC(V:List Str)(l:List Ex):List Str:=l.foldl qhA V
@[simp]def qr8(V):KC V []=V:=rfl
@[simp]def qfD(V x l):KC V (x::l)=KC (qhA V x) l:=rfl
def qaN(V l m):KC V (l++m)=KC (KC V l) m:=by unfold KC;rw[qz5]
def qr9:∀(e),Wen e->∀(U0) (b) (n d f) (V A:List Str) (tv ta:Option Nat) (dp:Int) (m:Nat),OS b n d f V A tv ta U0 U0->V.length+A.length<=m->m+(pre e).length<=200000000000->0<=dp->dp+hgt e<=1000000 ->
 qf prog GG 166 [.ptr b 0,.agg (qt e),.int .i64 dp] U0 (fun r U=>∃V' A' tv' ta',OS b (IntKind.i64.wrap (n+(pre e).length)) (max d (dp+hgt e-1)) (if f=0 then qO qp (pre e) else f) V' A' tv' ta' U0 U/\V'.length+A'.length<=m+(pre e).length/\V'=KC V (pre e)):=by
 refine qDa fun e ih hwe U0 b n d f V A tv ta dp m hos hm1 hm2 hdp hdh=>?_
 have hlt:=(qyF.1 hos.hb).1;refine qf.vc qe func166 rfl (by kernel_rfl) ?_
 -- the box
 refine KN (fun env U=>env 0=.ptr b 0/\env 2=.int .i64 dp/\env 4=.ptr U0.H.length 0/\SS b U0.H.length e n d f V A tv ta U0 U) rfl ?_ ?_
 . simp[qd e];refine⟨⟨by rw[qyT hlt];exact hos.hb,hos.tV,hos.tA,hos.dis,by simp,fun x hx hl=>by rw[qyT hl]⟩,by simp[qd e],by omega,qyQ _⟩
 rintro env U ⟨h0,h2,h4,hs⟩
 -- the number of nodes
 refine KN (fun env U=>env 0=.ptr b 0/\env 2=.int .i64 dp/\env 4=.ptr U0.H.length 0/\SS b U0.H.length e (IntKind.i64.wrap (n+1)) d f V A tv ta U0 U) rfl ?_ ?_
 . simp[h0,h2,h4,hs.hb];exact hs.set hs.tV hs.tA hs.dis
 rintro env U ⟨h0,h2,h4,hs⟩
 -- the depth
 refine KN (fun env U=>env 0=.ptr b 0/\env 2=.int .i64 dp/\env 4=.ptr U0.H.length 0/\SS b U0.H.length e (IntKind.i64.wrap (n+1)) (max d dp) f V A tv ta U0 U) rfl ?_ ?_
 . by_cases hd:d<dp
   . simp[h0,h2,h4,hs.hb,hd];have:max d dp=dp:=by omega
     rw[this];exact hs.set hs.tV hs.tA hs.dis
   . simp[h0,h2,h4,hs.hb,hd];have:max d dp=d:=by omega
     rwa[this]
 rintro env U ⟨h0,h2,h4,hs⟩
 -- the first error
 refine KN (fun env U=>env 0=.ptr b 0/\env 2=.int .i64 dp/\env 4=.ptr U0.H.length 0/\SS b U0.H.length e (IntKind.i64.wrap (n+1)) (max d dp) (if f=0 then qp e else f) V A tv ta U0 U) rfl ?_ ?_
 . by_cases hf:f=0
   . subst hf;have hbe:=hs.hbe;rw[qd]at hbe;simp[h0,h2,h4,hs.hb,hbe];rw[<- qd e];refine qCW (qko e hwe.nm) (by simp) ?_;simp[hs.hb];exact hs.set hs.tV hs.tA hs.dis
   . simp[h0,h2,h4,hs.hb,hf];exact hs
 rintro env U ⟨h0,h2,h4,hs⟩
 -- a variable's name
 refine KN (fun env U=>env 0=.ptr b 0/\env 2=.int .i64 dp/\env 4=.ptr U0.H.length 0/\∃V' tv',SS b U0.H.length e (IntKind.i64.wrap (n+1)) (max d dp) (if f=0 then qp e else f) V' A tv' ta U0 U/\V'.length<=V.length+(if e.op=2 then 1 else 0)/\V'=qhA V e) rfl ?_ ?_
 . have hbe:=hs.hbe;rw[qd]at hbe;by_cases o2:e.op=2
   . cases tv with
     | none=>
      have hV:=hs.tV;subst hV;have hb:=hs.hb;simp only[slS]at hb;simp[h0,h4,hb,hbe,o2];refine qCX (qeA GG [] e.name (by simp)) (by simp) (by simp[Leq]) ?_;simp[h0,h2,h4,hb,hbe,qL,qj,qs,zK];have hN:qhA [] e=[e.name]:=(by simp[qhA,o2]);rw[hN];refine⟨⟨some U.T.length,?_⟩,by simp⟩;have:=hs.set (n':=IntKind.i64.wrap (n+1)) (d':=max d dp) (f':=if f=0 then qp e else f) (TT.one (s:=e.name) (T:=U.T)) (hs.tA.push (x:=some 1)) (fun _=>hs.tA.ne);simpa[slS] using this
     | some t=>
      have hb:=hs.hb;simp only[slS]at hb;have htV:=hs.tV.2;simp[h0,h4,hb,hbe,o2];refine qb.pure (qeA GG V e.name (by omega)) (by simp) (by simp) ?_;cases hh:V.any (· == e.name)
      . have hbd:V.length+1<=549755813888:=(by omega);simp[h0,h2,h4,hb,hbe,qL,qj,qs,zK,htV,hbd];have hN:qhA V e=V++[e.name]:=(by unfold qhA;rw[if_pos ⟨o2,hh⟩]);rw[hN];refine⟨⟨some t,?_⟩,by simp⟩;have:=hs.set (n':=IntKind.i64.wrap (n+1)) (d':=max d dp) (f':=if f=0 then qp e else f) (TT.more (s:=e.name) hs.tV) (hs.tA.set (t:=t) (x:=some (V.length+1)) (hs.dis (by simp))) (fun _=>hs.dis (by simp));simpa[slS] using this
      simp[h0,h2,h4];have hN:qhA V e=V:=(by unfold qhA;rw[if_neg (fun h=>by rw[hh]at h;simp at h)]);rw[hN];exact⟨⟨some t,hs⟩,by omega⟩
   simp[h0,h2,h4,hs.hb,hbe,o2];rw[show qhA V e=V by unfold qhA;rw[if_neg (fun h=>o2 h.1)]];exact⟨⟨tv,hs⟩,qyQ _⟩
 rintro env U ⟨h0,h2,h4,V1,tv1,hs,hVl,hV1⟩;have hVA:V1.length+A.length<=m+(if e.op=2 then 1 else 0):=by omega
 have hdisA:∀u,ta=some u->some u≠tv1:=fun u hu e=>by
  have:=hs.dis (by rw[<- e];simp);exact this (by rw[hu,<- e])
 -- an array's name
 refine KN (fun env U=>env 0=.ptr b 0/\env 2=.int .i64 dp/\env 4=.ptr U0.H.length 0/\∃A' ta',SS b U0.H.length e (IntKind.i64.wrap (n+1)) (max d dp) (if f=0 then qp e else f) V1 A' tv1 ta' U0 U/\A'.length<=A.length+(if e.op=3\/e.op=24 then 1 else 0)) rfl ?_ ?_
 . have hbe:=hs.hbe;rw[qd]at hbe;by_cases o3:e.op=3\/e.op=24
   . rcases o3 with o3|o3
     all_goals
      cases ta with
      | none=>
       have hA:=hs.tA;subst hA;have hb:=hs.hb;simp only[slS]at hb;simp[h0,h4,hb,hbe,o3];refine qCX (qeA GG [] e.name (by simp)) (by simp) (by simp[Leq]) ?_;simp[h0,h2,h4,hb,hbe,o3,qL,qj,qs,zK];refine⟨[e.name],⟨some U.T.length,?_⟩,by simp⟩;have:=hs.set (n':=IntKind.i64.wrap (n+1)) (d':=max d dp) (f':=if f=0 then qp e else f) (hs.tV.push (x:=some 1)) (TT.one (s:=e.name) (T:=U.T)) (fun _ e=>hs.tV.ne e.symm);simpa[slS] using this
      | some t=>
       have hb:=hs.hb;simp only[slS]at hb;have htA:=hs.tA.2;simp[h0,h4,hb,hbe,o3];refine qb.pure (qeA GG A e.name (by omega)) (by simp) (by simp) ?_;cases hh:A.any (· == e.name)
       . have hbd:A.length+1<=549755813888:=(by omega);simp[h0,h2,h4,hb,hbe,o3,qL,qj,qs,zK,htA,hbd];refine⟨A++[e.name],⟨some t,?_⟩,by simp⟩;have:=hs.set (n':=IntKind.i64.wrap (n+1)) (d':=max d dp) (f':=if f=0 then qp e else f) (hs.tV.set (t:=t) (x:=some (A.length+1)) (hdisA t rfl)) (TT.more (s:=e.name) hs.tA) (fun h=>hs.dis h);simpa[slS] using this
       simp[h0,h2,h4];exact⟨A,⟨some t,hs⟩,by omega⟩
   have o3':¬e.op=3:=fun h=>o3 (.inl h)
   simp[h0,h2,h4,hs.hb,hbe,o3',show ¬e.op=24 from fun h=>o3 (.inr h)];exact⟨A,⟨ta,hs⟩,qyQ _⟩
 rintro env U ⟨h0,h2,h4,A1,ta1,hs,hAl⟩;have hVA1:V1.length+A1.length<=m+1:=by
  by_cases o2:e.op=2
  . rw[if_pos o2]at hVl;rw[if_neg (by omega)]at hAl;omega
  rw[if_neg o2]at hVl;split at hAl<;>omega
 have hl:=hwe.fits;have hf0:(if f=0 then qp e else f)=fst f [e]:=by
  unfold fst;by_cases h:f=0
  . simp only[if_pos h,qO];split
    . assumption
    . rfl
  simp only[if_neg h]
 rw[hf0]at hs;have hlen:(pre e).length=(kK e.args).length+1:=by rw[ju,qyY]
 simp;refine qC9 (fun q env U=>∃i V2 A2 tv2 ta2,i<=e.args.length/\q=e.args.length-i/\env 0=.ptr b 0/\env 2=.int .i64 dp/\env 4=.ptr U0.H.length 0/\env 6=.int .i64 i/\SS b U0.H.length e (IntKind.i64.wrap (n+((kK (e.args.take i)).length+1:Nat))) (max d (dp+Zr (e.args.take i))) (fst f (e::kK (e.args.take i))) V2 A2 tv2 ta2 U0 U/\V2.length+A2.length<=m+1+(kK (e.args.take i)).length/\V2=KC V (e::kK (e.args.take i))) e.args.length ⟨0,V1,A1,tv1,ta1,by simp,by simp,by simp[h0],by simp[h2],by simp[h4],by simp,by simpa using hs,by simpa using hVA1,by simp[hV1]⟩ ?_;clear h0 h2 h4 hs hVA1;rintro q env U ⟨i,V2,A2,tv2,ta2,hi,rfl,h0,h2,h4,h6,hs,hva,hV2⟩;have hbe:=hs.hbe;rw[qd]at hbe
 cases hv:e.args[i]? with
 | some a=>
  obtain⟨hc,hv'⟩:=qyF.1 hv;have hma:=qyG hv;have hlt2:=qiz hma;have etake:e.args.take (i+1)=e.args.take i++[a]:=by rw[qzb,hv];rfl
  have epre:kK (e.args.take (i+1))=kK (e.args.take i)++pre a:=by rw[etake,wL];simp
  have ehgt:Zr (e.args.take (i+1))=max (Zr (e.args.take i)) (hgt a):=by rw[etake,YV];simp
  have hsub:(kK (e.args.take i)).length+(pre a).length<=(kK e.args).length:=by
   have:e.args=e.args.take (i+1)++e.args.drop (i+1):=(qzA _ _).symm;have e2:(kK e.args).length=(kK (e.args.take (i+1))).length+(kK (e.args.drop (i+1))).length:=by
    conv=>lhs;rw[this,wL,qyK]
   rw[epre,qyK]at e2;omega
  have hwd:IntKind.i64.wrap (dp+1)=dp+1:=wr (by omega) (by omega);simp[h0,h2,h4,h6,hbe,hc,hv',qd a,hwd];rw[<- qd a];refine qC0 (ih a hma (hwe.arg hma) U b _ _ _ V2 A2 tv2 ta2 (dp+1) (m+1+(kK (e.args.take i)).length) hs.toOS.self hva (by omega) (by omega) (by omega)) ?_;rintro r U' ⟨V',A',tv',ta',hos',hva',hV'⟩
  try simp[h0,h2,h4,h6]
  refine⟨_,by omega,i+1,by omega,rfl,wr (by omega) (by omega),V',A',⟨tv',ta',?_⟩,?_,?_⟩
  . have h:=hs.then hos';have e1:IntKind.i64.wrap (IntKind.i64.wrap (n+((kK (e.args.take i)).length+1:Nat))+(pre a).length)=IntKind.i64.wrap (n+((kK (e.args.take (i+1))).length+1)):=by
     rw[qdv,epre,qyK];congr 1;omega
    have e2:max (max d (dp+Zr (e.args.take i))) (dp+1+hgt a-1)=max d (dp+Zr (e.args.take (i+1))):=by
     rw[ehgt];omega
    have e3:(if fst f (e::kK (e.args.take i))=0 then qO qp (pre a) else fst f (e::kK (e.args.take i)))=fst f (e::kK (e.args.take (i+1))):=by
     rw[epre,<- qy3,qf9]
    rwa[e1,e2,e3]at h
  . rw[epre,qyK];omega
  rw[hV',hV2,epre,qfD,qaN]
 | none=>
  have hc:¬i<e.args.length:=by simp at hv;omega
  have ht:e.args.take i=e.args:=qyN (by omega);rw[ht,<- hlen,<- ju]at hs;rw[ht]at hva hV2;rw[<- ju]at hV2;have e2:max d (dp+Zr e.args)=max d (dp+hgt e-1):=by rw[kR e];omega
  rw[e2]at hs;simp[h4,h6,hbe,hc];exact⟨V2,A2,⟨tv2,ta2,hs.toOS⟩,by omega,hV2⟩
