import Derived.Test.YtimecmegnocamaaGreatDoorPq14
set_option maxRecDepth 100000
set_option maxHeartbeats 20000000
set_option linter.all false
set_option linter.defProp false
namespace Go.Proofs.YtimecmegnocamaaGreatDoor
open Go Go.Abs Tryz
def jl(op:Int):Bool:=decide (op=2\/op=3\/op=24)
def qf6(op):Pure prog GG 335 [.int .i64 op] (.bool (jl op)):=by
 refine qFP qg func335 rfl (by kernel_rfl) ?_;by_cases o2:op=2
 . subst o2;simp[jl]
 by_cases o3:op=3
 . subst o3;simp[jl]
 by_cases o24:op=24
 . subst o24;simp[jl]
 simp[jl,o2,o3,o24]
def qo6(op)(h1:¬op<1)(h2:¬25<op):Pure prog GG 382 [.int .i64 op] (.int .i64 (zE op)):=by
 refine qFm qg func382 rfl (by kernel_rfl) ?_;have:op=1\/op=2\/op=3\/op=4\/op=5\/op=6\/op=7\/op=8\/op=9\/op=10\/op=11\/op=12\/op=13\/op=14\/op=15\/op=16\/op=17\/op=18\/op=19\/op=20\/op=21\/op=22\/op=23\/op=24\/op=25:=by omega
 rcases this with rfl|rfl|rfl|rfl|rfl|rfl|rfl|rfl|rfl|rfl|rfl|rfl|rfl|rfl|rfl|rfl|rfl|rfl|rfl|rfl|rfl|rfl|rfl|rfl|rfl<;>simp[zE]
def qms(e)(hs:Fits e.name):Pure prog GG 345 [.agg (qt e)] (.int .i64 (qv e)):=by
 refine qFP qg func345 rfl (by kernel_rfl) ?_;have hvar:=qn5 e.name hs;have hnam:=Qj e.name hs;have hnd:=qf6 e.op;rw[qc];obtain⟨op,n,s,a⟩:=e;simp only[qFi,Ex.n_mk,qFj,qFk]at hnd hvar hnam hs⊢;have ht:(a.length:Int).tmod 2=((a.length%2:Nat):Int):=rfl;by_cases c1:op<1
 . have x:qv (.mk op n s a)=1:=(by simp[qv,c1]);rw[x];simp[c1]
 by_cases c2:25<op
 . have x:qv (.mk op n s a)=1:=(by simp[qv,c2]);rw[x];simp[*]
 have har:=qo6 op c1 c2;by_cases n1:n<0
 . have x:qv (.mk op n s a)=1:=by
    by_cases o1:op=1
    . simp[*,qv]
    simp[*,qv,show ¬n=0 by omega]
   rw[x];simp[*]
 by_cases n2:65535<n
 . have x:qv (.mk op n s a)=1:=by
    by_cases o1:op=1
    . simp[*,qv]
    simp[*,qv,show ¬n=0 by omega]
   rw[x];simp[*]
 by_cases hnm:s=[]
 . subst hnm;by_cases o1:op=1
   . subst o1;by_cases n0:n=0
     . subst n0;simp[];refine qFz har rfl ?_;by_cases hl:(a.length:Int)=zE 1
       rotate_left
       . have ho:qm (.mk 1 0 [] a)=false:=(by simp[qm,hl]);have x:qv (.mk 1 0 [] a)=1:=(by simp[qv,ho]);rw[x];simp[hl]
       have ho:qm (.mk 1 0 [] a)=true:=(by simp[qm,hl]);simp[hl];refine qFz hnd rfl ?_;have hndf:jl 1=false:=(by simp[jl]);have x:qv (.mk 1 0 [] a)=0:=(by(simp[qv,ho]<;>omega));rw[x,hndf];simp
     skip
     simp[*];refine qFz har rfl ?_;by_cases hl:(a.length:Int)=zE 1
     rotate_left
     . have ho:qm (.mk 1 n [] a)=false:=(by simp[qm,hl]);have x:qv (.mk 1 n [] a)=1:=(by simp[qv,ho]);rw[x];simp[hl]
     have ho:qm (.mk 1 n [] a)=true:=(by simp[qm,hl]);simp[hl];refine qFz hnd rfl ?_;have hndf:jl 1=false:=(by simp[jl]);have x:qv (.mk 1 n [] a)=0:=(by(simp[qv,ho]<;>omega));rw[x,hndf];simp
   by_cases n0:n=0
   rotate_left
   . have x:qv (.mk op n [] a)=1:=(by simp[*,qv]);rw[x];have b1:(op==1)=false:=(by simpa using o1);have b1':(op != 1)=true:=(by simpa using o1);have bn:(n != 0)=true:=(by simpa using n0);simp[*]
   subst n0;by_cases o2:op=2
   . subst o2;simp[];refine qFz har rfl ?_;by_cases hl:(a.length:Int)=zE 2
     rotate_left
     . have ho:qm (.mk 2 0 [] a)=false:=(by simp[qm,hl]);have x:qv (.mk 2 0 [] a)=1:=(by simp[qv,ho]);rw[x];simp[hl]
     have ho:qm (.mk 2 0 [] a)=true:=(by simp[qm,hl]);simp[hl];refine qFz hvar rfl ?_;cases hv:wg []
     . have x:qv (.mk 2 0 [] a)=7:=(by simp[*,qv]);rw[x];simp
     have x:qv (.mk 2 0 [] a)=0:=(by simp[*,qv]);rw[x];simp;refine qFz hnd rfl ?_;simp[jl]
   by_cases o3:op=3
   . subst o3;simp[];refine qFz har rfl ?_;by_cases hl:(a.length:Int)=zE 3
     rotate_left
     . have ho:qm (.mk 3 0 [] a)=false:=(by simp[qm,hl]);have x:qv (.mk 3 0 [] a)=1:=(by simp[qv,ho]);rw[x];simp[hl]
     have ho:qm (.mk 3 0 [] a)=true:=(by simp[qm,hl]);simp[hl];refine qFz hnd rfl ?_;simp[jl];refine qFz hnam rfl ?_;cases hv:z8 []
     . have x:qv (.mk 3 0 [] a)=7:=(by simp[*,qv]);rw[x];simp
     have x:qv (.mk 3 0 [] a)=0:=(by simp[*,qv]);rw[x];simp
   by_cases o24:op=24
   . subst o24;simp[];refine qFz har rfl ?_;by_cases hl:(a.length:Int)=zE 24
     rotate_left
     . have ho:qm (.mk 24 0 [] a)=false:=(by simp[qm,hl]);have x:qv (.mk 24 0 [] a)=1:=(by simp[qv,ho]);rw[x];simp[hl]
     have ho:qm (.mk 24 0 [] a)=true:=(by simp[qm,hl]);simp[hl];refine qFz hnd rfl ?_;simp[jl];refine qFz hnam rfl ?_;cases hv:z8 []
     . have x:qv (.mk 24 0 [] a)=7:=(by simp[*,qv]);rw[x];simp
     have x:qv (.mk 24 0 [] a)=0:=(by simp[*,qv]);rw[x];simp
   by_cases o23:op=23
   . subst o23;by_cases l1:a.length<3
     . have l1':(a.length:Int)<3:=(by omega);have l1'':¬(3:Int)<=a.length:=(by omega);have ho:qm (.mk 23 0 [] a)=false:=(by show decide (a.length%2=1/\3<=a.length/\a.length<=33)=false;exact decide_eq_false (by omega));have x:qv (.mk 23 0 [] a)=1:=(by simp[qv,ho]);rw[x];simp[l1']
     have l1':¬(a.length:Int)<3:=(by omega);by_cases l2:33<a.length
     . have l2':(33:Int)<a.length:=(by omega);have l2'':¬(a.length:Int)<=33:=(by omega);have ho:qm (.mk 23 0 [] a)=false:=(by show decide (a.length%2=1/\3<=a.length/\a.length<=33)=false;exact decide_eq_false (by omega));have x:qv (.mk 23 0 [] a)=1:=(by simp[qv,ho]);rw[x];simp[*]
     have l2':¬(33:Int)<a.length:=(by omega);by_cases l3:a.length%2=0
     . have l3':(a.length:Int)%2=0:=(by omega);have l4:(a.length:Int).tmod 2=0:=(by rw[ht];omega);have ho:qm (.mk 23 0 [] a)=false:=(by show decide (a.length%2=1/\3<=a.length/\a.length<=33)=false;exact decide_eq_false (by omega));have x:qv (.mk 23 0 [] a)=1:=(by simp[qv,ho]);rw[x];simp[*]
     have ho:qm (.mk 23 0 [] a)=true:=(by show decide (a.length%2=1/\3<=a.length/\a.length<=33)=true;exact decide_eq_true (by omega));simp[l1',l2',show ¬(a.length:Int).tmod 2=0 by rw[ht];omega];refine qFz hnd rfl ?_;have hndf:jl 23=false:=(by simp[jl]);have x:qv (.mk 23 0 [] a)=0:=(by simp[*,qv]);rw[x,hndf];simp
   have b1:(op==1)=false:=(by simpa using o1);have b1':(op != 1)=true:=(by simpa using o1);have b2:(op==2)=false:=(by simpa using o2);have b2':(op != 2)=true:=(by simpa using o2);have b3:(op==3)=false:=(by simpa using o3);have b3':(op != 3)=true:=(by simpa using o3);have b24:(op==24)=false:=(by simpa using o24);have b24':(op != 24)=true:=(by simpa using o24);simp[*,show(op==23)=false by simpa using o23,show(op != 23)=true by simpa using o23];refine qFz har rfl ?_;by_cases hl:(a.length:Int)=zE op
   rotate_left
   . have ho:qm (.mk op 0 [] a)=false:=(by simp[*,qm]);have x:qv (.mk op 0 [] a)=1:=(by simp[qv,ho]);rw[x];simp[hl]
   have ho:qm (.mk op 0 [] a)=true:=(by simp[*,qm]);simp[*];refine qFz hnd rfl ?_;have x:qv (.mk op 0 [] a)=0:=(by simp[*,qv]);rw[x,show jl op=false by simp[*,jl]];simp
 have hie:s.isEmpty=false:=by simpa using hnm
 by_cases o1:op=1
 . subst o1;have x:qv (.mk 1 n s a)=1:=(by simp[qv,hnm]);rw[x];by_cases n0:n=0
   . subst n0;simp[*];refine qFz hnd rfl ?_;simp[jl]
   skip
   simp[*];refine qFz hnd rfl ?_;simp[jl]
 by_cases n0:n=0
 rotate_left
 . have x:qv (.mk op n s a)=1:=(by simp[*,qv]);rw[x];have b1:(op==1)=false:=(by simpa using o1);simp[*,show(op != 1)=true by simpa using o1,show(n != 0)=true by simpa using n0]
 subst n0;by_cases o2:op=2
 . subst o2;simp[hie];refine qFz hnd rfl ?_;simp[jl];refine qFz har rfl ?_;by_cases hl:(a.length:Int)=zE 2
   rotate_left
   . have ho:qm (.mk 2 0 s a)=false:=(by simp[qm,hl]);have x:qv (.mk 2 0 s a)=1:=(by simp[qv,ho]);rw[x];simp[hl]
   have ho:qm (.mk 2 0 s a)=true:=(by simp[qm,hl]);simp[hl];refine qFz hvar rfl ?_;cases hv:wg s
   . have x:qv (.mk 2 0 s a)=7:=(by simp[*,qv]);rw[x];simp
   have x:qv (.mk 2 0 s a)=0:=(by simp[*,qv]);rw[x];simp;refine qFz hnd rfl ?_;simp[jl]
 by_cases o3:op=3
 . subst o3;simp[hie];refine qFz hnd rfl ?_;simp[jl];refine qFz har rfl ?_;by_cases hl:(a.length:Int)=zE 3
   rotate_left
   . have ho:qm (.mk 3 0 s a)=false:=(by simp[qm,hl]);have x:qv (.mk 3 0 s a)=1:=(by simp[qv,ho]);rw[x];simp[hl]
   have ho:qm (.mk 3 0 s a)=true:=(by simp[qm,hl]);simp[hl];refine qFz hnd rfl ?_;simp[jl];refine qFz hnam rfl ?_;cases hv:z8 s
   . have x:qv (.mk 3 0 s a)=7:=(by simp[*,qv]);rw[x];simp
   have x:qv (.mk 3 0 s a)=0:=(by simp[*,qv]);rw[x];simp
 by_cases o24:op=24
 . subst o24;simp[hie];refine qFz hnd rfl ?_;simp[jl];refine qFz har rfl ?_;by_cases hl:(a.length:Int)=zE 24
   rotate_left
   . have ho:qm (.mk 24 0 s a)=false:=(by simp[qm,hl]);have x:qv (.mk 24 0 s a)=1:=(by simp[qv,ho]);rw[x];simp[hl]
   have ho:qm (.mk 24 0 s a)=true:=(by simp[qm,hl]);simp[hl];refine qFz hnd rfl ?_;simp[jl];refine qFz hnam rfl ?_;cases hv:z8 s
   . have x:qv (.mk 24 0 s a)=7:=(by simp[*,qv]);rw[x];simp
   have x:qv (.mk 24 0 s a)=0:=(by simp[*,qv]);rw[x];simp
 by_cases o23:op=23
 . subst o23;have x:qv (.mk 23 0 s a)=1:=(by simp[qv,hnm]);rw[x];simp[hie];refine qFz hnd rfl ?_;simp[jl]
 rw[show qv (.mk op 0 s a)=1 by simp[*,qv]];simp[*];refine qFz hnd rfl ?_;simp[*,jl]
def slS(V:List Str)(tv:Option Nat):AV:=match tv with
 |none=>.sl 0 [] .nil
 |some t=>.sl 1 (V.map jm) (.chain t V.length)
def TT(V:List Str)(tv:Option Nat)(T:List (Option Nat)):Prop:=match tv with
 |none=>V=[]
 |some t=>V≠[]/\T[t]?=some (some V.length)
structure OS(b:Nat)(n d f:Int)(V A:List Str)(tv ta:Option Nat)(U0 U:St):Prop where
 hb:U.H[b]?=some (.cells [.int .i64 n,.int .i64 d,.int .i64 f,slS V tv,slS A ta])
 tV:TT V tv U.T
 tA:TT A ta U.T
 dis:tv≠none->tv≠ta
 len:U0.H.length<=U.H.length
 ext:∀x,x≠b->x<U0.H.length->U.H[x]?=U0.H[x]?
structure SS(b be:Nat)(e:Ex)(n d f:Int)(V A:List Str)(tv ta:Option Nat)(U0 U:St):Prop extends OS b n d f V A tv ta U0 U where
 hbe:U.H[be]?=some (.cells (qt e))
 ne:be≠b
 old:U0.H.length<=be
def SS.set{b be:Nat}{e:Ex}{n d f n' d' f':Int}{V A V' A':List Str}{tv ta tv' ta':Option Nat}{U0 U:St}{T:List (Option Nat)}(h:SS b be e n d f V A tv ta U0 U)
 (hV:TT V' tv' T) (hA:TT A' ta' T) (hd:tv'≠none->tv'≠ta'):
 SS b be e n' d' f' V' A' tv' ta' U0 ⟨U.H.set b (.cells [.int .i64 n',.int .i64 d',.int .i64 f',slS V' tv',slS A' ta']),T⟩:=by
 have hlt:=(qAU.1 h.hb).1;refine⟨⟨?_,hV,hA,hd,by simpa using h.len,fun x hx hl=>?_⟩,?_,h.ne,h.old⟩
 . simp[hlt]
 . simp only[qCU];rw[if_neg (fun e=>hx e.symm)];exact h.ext x hx hl
 simp only[qCU];rw[if_neg (fun e=>h.ne e.symm)];exact h.hbe
def TT.push{A ta T x}(h:TT A ta T):TT A ta (T++[x]):=by
 cases ta with
 |none=>exact h
 |some t=>exact⟨h.1,by rw[qBa (qAU.1 h.2).1];exact h.2⟩
def TT.set{A ta T t x}(h:TT A ta T)(hn:some t≠ta):TT A ta (T.set t x):=by
 cases ta with
 |none=>exact h
 | some u=>
  refine⟨h.1,?_⟩;rw[qCU,if_neg (fun e=>hn (by rw[e]))];exact h.2
def TT.ne{A ta T}(h:TT A ta T):some T.length≠ta:=by
 intro e;subst e;have:=(qAU.1 h.2).1;omega
def TT.one{s T}:TT [s] (some T.length) (T++[some 1]):=⟨by simp,by simp⟩
def TT.more{V s t T}(h:TT V (some t) T):TT (V++[s]) (some t) (T.set t (some (V.length+1))) :=
 ⟨by simp,by simp[(qAU.1 h.2).1]⟩
def OS.self{b:Nat}{n d f:Int}{V A:List Str}{tv ta:Option Nat}{U0 U:St}(h:OS b n d f V A tv ta U0 U):OS b n d f V A tv ta U U :=
 ⟨h.hb,h.tV,h.tA,h.dis,qA5 _,fun _ _ _=>rfl⟩
def SS.then{b be:Nat}{e:Ex}{n d f n' d' f':Int}{V A V' A':List Str}{tv ta tv' ta':Option Nat}{U0 U U':St}(h:SS b be e n d f V A tv ta U0 U)(h':OS b n' d' f' V' A' tv' ta' U U'):SS b be e n' d' f' V' A' tv' ta' U0 U':=by
 refine⟨⟨h'.hb,h'.tV,h'.tA,h'.dis,qBN h.len h'.len,fun x hx hl=>?_⟩,?_,h.ne,h.old⟩
 . rw[h'.ext x hx (qBd hl h.len)];exact h.ext x hx hl
 rw[h'.ext be h.ne (qAU.1 h.hbe).1];exact h.hbe
noncomputable def fst(f:Int)(l:List Ex):Int:=if f=0 then qY qv l else f
def qia{f l m}:fst f (l++m)=if fst f l=0 then qY qv m else fst f l:=by
 unfold fst;by_cases h:f=0
 . simp only[if_pos h,yg]
 simp only[if_neg h]
def qjz(V:List Str)(x:Ex):List Str:=if x.op=2/\V.any (· == x.name)=false then V++[x.name] else V
def WV(V:List Str)(l:List Ex):List Str:=l.foldl qjz V
@[simp]def quw(V):WV V []=V:=rfl
@[simp]def qhv(V x l):WV V (x::l)=WV (qjz V x) l:=rfl
def qb9(V l m):WV V (l++m)=WV (WV V l) m:=by unfold WV;rw[qBX]
def qux:∀(e),Wen e->∀(U0) (b) (n d f) (V A:List Str) (tv ta:Option Nat) (dp:Int) (m:Nat),OS b n d f V A tv ta U0 U0->V.length+A.length<=m->m+(pre e).length<=200000000000->0<=dp->dp+hgt e<=1000000 ->
 qj prog GG 296 [.ptr b 0,.agg (qt e),.int .i64 dp] U0 (fun r U=>∃V' A' tv' ta',OS b (IntKind.i64.wrap (n+(pre e).length)) (max d (dp+hgt e-1)) (if f=0 then qY qv (pre e) else f) V' A' tv' ta' U0 U/\V'.length+A'.length<=m+(pre e).length/\V'=WV V (pre e)):=by
 refine qFN fun e ih hwe U0 b n d f V A tv ta dp m hos hm1 hm2 hdp hdh=>?_
 have hlt:=(qAU.1 hos.hb).1;refine qj.vc qg func296 rfl (by kernel_rfl) ?_
 -- the box
 refine W7 (fun env U=>env 0=.ptr b 0/\env 2=.int .i64 dp/\env 4=.ptr U0.H.length 0/\SS b U0.H.length e n d f V A tv ta U0 U) rfl ?_ ?_
 . simp[qc e];refine⟨⟨by rw[qBa hlt];exact hos.hb,hos.tV,hos.tA,hos.dis,by simp,fun x hx hl=>by rw[qBa hl]⟩,by simp[qc e],by omega,qA5 _⟩
 rintro env U ⟨h0,h2,h4,hs⟩
 -- the number of nodes
 refine W7 (fun env U=>env 0=.ptr b 0/\env 2=.int .i64 dp/\env 4=.ptr U0.H.length 0/\SS b U0.H.length e (IntKind.i64.wrap (n+1)) d f V A tv ta U0 U) rfl ?_ ?_
 . simp[*,hs.hb];exact hs.set hs.tV hs.tA hs.dis
 rintro env U ⟨h0,h2,h4,hs⟩
 -- the depth
 refine W7 (fun env U=>env 0=.ptr b 0/\env 2=.int .i64 dp/\env 4=.ptr U0.H.length 0/\SS b U0.H.length e (IntKind.i64.wrap (n+1)) (max d dp) f V A tv ta U0 U) rfl ?_ ?_
 . by_cases hd:d<dp
   . simp[*,hs.hb];have:max d dp=dp:=by omega
     rw[this];exact hs.set hs.tV hs.tA hs.dis
   . simp[*,hs.hb];have:max d dp=d:=by omega
     rwa[this]
 rintro env U ⟨h0,h2,h4,hs⟩
 -- the first error
 refine W7 (fun env U=>env 0=.ptr b 0/\env 2=.int .i64 dp/\env 4=.ptr U0.H.length 0/\SS b U0.H.length e (IntKind.i64.wrap (n+1)) (max d dp) (if f=0 then qv e else f) V A tv ta U0 U) rfl ?_ ?_
 . by_cases hf:f=0
   . subst hf;have hbe:=hs.hbe;rw[qc]at hbe;simp[*,hs.hb];rw[<- qc e];refine qFz (qms e hwe.nm) (by simp) ?_;simp[hs.hb];exact hs.set hs.tV hs.tA hs.dis
   . simp[h0,h2,h4,hs.hb,hf];exact hs
 rintro env U ⟨h0,h2,h4,hs⟩
 -- a variable's name
 refine W7 (fun env U=>env 0=.ptr b 0/\env 2=.int .i64 dp/\env 4=.ptr U0.H.length 0/\∃V' tv',SS b U0.H.length e (IntKind.i64.wrap (n+1)) (max d dp) (if f=0 then qv e else f) V' A tv' ta U0 U/\V'.length<=V.length+(if e.op=2 then 1 else 0)/\V'=qjz V e) rfl ?_ ?_
 . have hbe:=hs.hbe;rw[qc]at hbe;by_cases o2:e.op=2
   . cases tv with
     | none=>
      have hV:=hs.tV;subst hV;have hb:=hs.hb;simp only[slS]at hb;simp[*];refine qFA (qgr GG [] e.name (by simp)) (by simp) (by simp[Leq]) ?_;simp[*,qq,qi,qp,za];have hN:qjz [] e=[e.name]:=(by simp[qjz,o2]);rw[hN];refine⟨⟨some U.T.length,?_⟩,by simp⟩;have:=hs.set (n':=IntKind.i64.wrap (n+1)) (d':=max d dp) (f':=if f=0 then qv e else f) (TT.one (s:=e.name) (T:=U.T)) (hs.tA.push (x:=some 1)) (fun _=>hs.tA.ne);simpa[slS] using this
     | some t=>
      have hb:=hs.hb;simp only[slS]at hb;have htV:=hs.tV.2;simp[h0,h4,hb,hbe,o2];refine qFO (qgr GG V e.name (by omega)) (by simp) (by simp) ?_;cases hh:V.any (· == e.name)
      . have hbd:V.length+1<=549755813888:=(by omega);simp[h0,h2,h4,hb,hbe,qq,qi,qp,za,htV,hbd];have hN:qjz V e=V++[e.name]:=(by unfold qjz;rw[if_pos ⟨o2,hh⟩]);rw[hN];refine⟨⟨some t,?_⟩,by simp⟩;have:=hs.set (n':=IntKind.i64.wrap (n+1)) (d':=max d dp) (f':=if f=0 then qv e else f) (TT.more (s:=e.name) hs.tV) (hs.tA.set (t:=t) (x:=some (V.length+1)) (hs.dis (by simp))) (fun _=>hs.dis (by simp));simpa[slS] using this
      simp[h0,h2,h4];have hN:qjz V e=V:=(by unfold qjz;rw[if_neg (fun h=>by rw[hh]at h;simp at h)]);rw[hN];exact⟨⟨some t,hs⟩,by omega⟩
   simp[h0,h2,h4,hs.hb,hbe,o2];rw[show qjz V e=V by unfold qjz;rw[if_neg (fun h=>o2 h.1)]];exact⟨⟨tv,hs⟩,qA5 _⟩
 rintro env U ⟨h0,h2,h4,V1,tv1,hs,hVl,hV1⟩;have hVA:V1.length+A.length<=m+(if e.op=2 then 1 else 0):=by omega
 have hdisA:∀u,ta=some u->some u≠tv1:=fun u hu e=>by
  have:=hs.dis (by rw[<- e];simp);exact this (by rw[hu,<- e])
 -- an array's name
 refine W7 (fun env U=>env 0=.ptr b 0/\env 2=.int .i64 dp/\env 4=.ptr U0.H.length 0/\∃A' ta',SS b U0.H.length e (IntKind.i64.wrap (n+1)) (max d dp) (if f=0 then qv e else f) V1 A' tv1 ta' U0 U/\A'.length<=A.length+(if e.op=3\/e.op=24 then 1 else 0)) rfl ?_ ?_
 . have hbe:=hs.hbe;rw[qc]at hbe;by_cases o3:e.op=3\/e.op=24
   . rcases o3 with o3|o3
     all_goals
      cases ta with
      | none=>
       have hA:=hs.tA;subst hA;have hb:=hs.hb;simp only[slS]at hb;simp[h0,h4,hb,hbe,o3];refine qFA (qgr GG [] e.name (by simp)) (by simp) (by simp[Leq]) ?_;simp[h0,h2,h4,hb,hbe,o3,qq,qi,qp,za];refine⟨[e.name],⟨some U.T.length,?_⟩,by simp⟩;have:=hs.set (n':=IntKind.i64.wrap (n+1)) (d':=max d dp) (f':=if f=0 then qv e else f) (hs.tV.push (x:=some 1)) (TT.one (s:=e.name) (T:=U.T)) (fun _ e=>hs.tV.ne e.symm);simpa[slS] using this
      | some t=>
       have hb:=hs.hb;simp only[slS]at hb;have htA:=hs.tA.2;simp[h0,h4,hb,hbe,o3];refine qFO (qgr GG A e.name (by omega)) (by simp) (by simp) ?_;cases hh:A.any (· == e.name)
       . have hbd:A.length+1<=549755813888:=(by omega);simp[h0,h2,h4,hb,hbe,o3,qq,qi,qp,za,htA,hbd];refine⟨A++[e.name],⟨some t,?_⟩,by simp⟩;have:=hs.set (n':=IntKind.i64.wrap (n+1)) (d':=max d dp) (f':=if f=0 then qv e else f) (hs.tV.set (t:=t) (x:=some (A.length+1)) (hdisA t rfl)) (TT.more (s:=e.name) hs.tA) (fun h=>hs.dis h);simpa[slS] using this
       simp[h0,h2,h4];exact⟨A,⟨some t,hs⟩,by omega⟩
   have o3':¬e.op=3:=fun h=>o3 (.inl h)
   simp[h0,h2,h4,hs.hb,hbe,o3',show ¬e.op=24 from fun h=>o3 (.inr h)];exact⟨A,⟨ta,hs⟩,qA5 _⟩
 rintro env U ⟨h0,h2,h4,A1,ta1,hs,hAl⟩;have hVA1:V1.length+A1.length<=m+1:=by
  by_cases o2:e.op=2
  . rw[if_pos o2]at hVl;rw[if_neg (by omega)]at hAl;omega
  rw[if_neg o2]at hVl;split at hAl<;>omega
 have hl:=hwe.fits;have hf0:(if f=0 then qv e else f)=fst f [e]:=by
  unfold fst;by_cases h:f=0
  . simp only[if_pos h,qY];split
    . assumption
    . rfl
  simp only[if_neg h]
 rw[hf0]at hs;have hlen:(pre e).length=(wv e.args).length+1:=by rw[jC,qBc]
 simp;refine qFM (fun q env U=>∃i V2 A2 tv2 ta2,i<=e.args.length/\q=e.args.length-i/\env 0=.ptr b 0/\env 2=.int .i64 dp/\env 4=.ptr U0.H.length 0/\env 6=.int .i64 i/\SS b U0.H.length e (IntKind.i64.wrap (n+((wv (e.args.take i)).length+1:Nat))) (max d (dp+Jh (e.args.take i))) (fst f (e::wv (e.args.take i))) V2 A2 tv2 ta2 U0 U/\V2.length+A2.length<=m+1+(wv (e.args.take i)).length/\V2=WV V (e::wv (e.args.take i))) e.args.length ⟨0,V1,A1,tv1,ta1,by simp,by simp,by simp[h0],by simp[h2],by simp[h4],by simp,by simpa using hs,by simpa using hVA1,by simp[hV1]⟩ ?_;clear h0 h2 h4 hs hVA1;rintro q env U ⟨i,V2,A2,tv2,ta2,hi,rfl,h0,h2,h4,h6,hs,hva,hV2⟩;have hbe:=hs.hbe;rw[qc]at hbe
 cases hv:e.args[i]? with
 | some a=>
  obtain⟨hc,hv'⟩:=qAU.1 hv;have hma:=qAV hv;have hlt2:=qkK hma;have etake:e.args.take (i+1)=e.args.take i++[a]:=by rw[qBi,hv];rfl
  have epre:wv (e.args.take (i+1))=wv (e.args.take i)++pre a:=by rw[etake,vo];simp
  have ehgt:Jh (e.args.take (i+1))=max (Jh (e.args.take i)) (hgt a):=by rw[etake,K9];simp
  have hsub:(wv (e.args.take i)).length+(pre a).length<=(wv e.args).length:=by
   have:e.args=e.args.take (i+1)++e.args.drop (i+1):=(qBF _ _).symm;have e2:(wv e.args).length=(wv (e.args.take (i+1))).length+(wv (e.args.drop (i+1))).length:=by
    conv=>lhs;rw[this,vo,qAY]
   rw[epre,qAY]at e2;omega
  have hwd:IntKind.i64.wrap (dp+1)=dp+1:=wr (by omega) (by omega);simp[h0,h2,h4,h6,hbe,hc,hv',qc a,hwd];rw[<- qc a];refine qFD (ih a hma (hwe.arg hma) U b _ _ _ V2 A2 tv2 ta2 (dp+1) (m+1+(wv (e.args.take i)).length) hs.toOS.self hva (by omega) (by omega) (by omega)) ?_;rintro r U' ⟨V',A',tv',ta',hos',hva',hV'⟩
  try simp[h0,h2,h4,h6]
  refine⟨_,by omega,i+1,by omega,rfl,wr (by omega) (by omega),V',A',⟨tv',ta',?_⟩,?_,?_⟩
  . have h:=hs.then hos';have e1:IntKind.i64.wrap (IntKind.i64.wrap (n+((wv (e.args.take i)).length+1:Nat))+(pre a).length)=IntKind.i64.wrap (n+((wv (e.args.take (i+1))).length+1)):=by
     rw[qfd,epre,qAY];congr 1;omega
    have e2:max (max d (dp+Jh (e.args.take i))) (dp+1+hgt a-1)=max d (dp+Jh (e.args.take (i+1))):=by
     rw[ehgt];omega
    have e3:(if fst f (e::wv (e.args.take i))=0 then qY qv (pre a) else fst f (e::wv (e.args.take i)))=fst f (e::wv (e.args.take (i+1))):=by
     rw[epre,<- qBl,qia]
    rwa[e1,e2,e3]at h
  . rw[epre,qAY];omega
  rw[hV',hV2,epre,qhv,qb9]
 | none=>
  have hc:¬i<e.args.length:=by simp at hv;omega
  have ht:e.args.take i=e.args:=qAZ (by omega);rw[ht,<- hlen,<- jC]at hs;rw[ht]at hva hV2;rw[<- jC]at hV2;have e2:max d (dp+Jh e.args)=max d (dp+hgt e-1):=by rw[wC e];omega
  rw[e2]at hs;simp[h4,h6,hbe,hc];exact⟨V2,A2,⟨tv2,ta2,hs.toOS⟩,by omega,hV2⟩
