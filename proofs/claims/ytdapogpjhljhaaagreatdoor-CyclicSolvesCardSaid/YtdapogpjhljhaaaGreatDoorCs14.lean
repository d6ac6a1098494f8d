import Derived.Test.YtdapogpjhljhaaaGreatDoorCs09
import Derived.Test.YtdapogpjhljhaaaGreatDoorCs06
set_option maxRecDepth 100000
set_option maxHeartbeats 20000000
set_option linter.all false
set_option linter.defProp false
namespace Go.Proofs.YtdapogpjhljhaaaGreatDoor
open Go Go.Abs Tryz
def jn(op:Int):Bool:=decide (op=2\/op=3\/op=24)
def qgk(op):Pure prog GG 205 [.int .i64 op] (.bool (jn op)):=by
 refine qF6 func205 ?_;by_cases c:op=2
 . subst c;simp[jn]
 by_cases b:op=3
 . subst b;simp[jn]
 by_cases a:op=24
 . subst a;simp[jn]
 simp[jn,c,b,a]
def qps(op)(h1:¬op<1)(h2:¬25<op):Pure prog GG 206 [.int .i64 op] (.int .i64 (zE op)):=by
 refine qFD func206 ?_;have:op=1\/op=2\/op=3\/op=4\/op=5\/op=6\/op=7\/op=8\/op=9\/op=10\/op=11\/op=12\/op=13\/op=14\/op=15\/op=16\/op=17\/op=18\/op=19\/op=20\/op=21\/op=22\/op=23\/op=24\/op=25:=by omega
 rcases this with rfl|rfl|rfl|rfl|rfl|rfl|rfl|rfl|rfl|rfl|rfl|rfl|rfl|rfl|rfl|rfl|rfl|rfl|rfl|rfl|rfl|rfl|rfl|rfl|rfl<;>simp[zE]
def qmG(e)(w:Fits e.name):Pure prog GG 157 [.agg (qo e)] (.int .i64 (qy e)):=by
 refine qF6 func157 ?_;have v:=qov e.name w;have l:=Qs e.name w;have d:=qgk e.op;rw[qd];obtain⟨op,n,s,a⟩:=e;simp only[qFy,qFz,qFA,qFB]at d v l w⊢;have z:(a.length:Int).tmod 2=((a.length%2:Nat):Int):=rfl;by_cases c1:op<1
 . have x:qy (.mk op n s a)=1:=(by simp[qy,c1]);rw[x];simp[c1]
 by_cases c2:25<op
 . have x:qy (.mk op n s a)=1:=(by simp[qy,c2]);rw[x];simp[*]
 have g:=qps op c1 c2;by_cases n1:n<0
 . have x:qy (.mk op n s a)=1:=by
    by_cases f:op=1
    . simp[*,qy]
    simp[*,qy,show ¬n=0 by omega]
   rw[x];simp[*]
 by_cases F:65535<n
 . have x:qy (.mk op n s a)=1:=by
    by_cases f:op=1
    . simp[*,qy]
    simp[*,qy,show ¬n=0 by omega]
   rw[x];simp[*]
 by_cases r:s=[]
 . subst r;by_cases f:op=1
   . subst f;by_cases n0:n=0
     . subst n0;simp[];refine qFQ g ?_ rfl;by_cases b:(a.length:Int)=zE 1
       rotate_left
       . have c:qk (.mk 1 0 [] a)=false:=(by simp[qk,b]);have x:qy (.mk 1 0 [] a)=1:=(by simp[qy,c]);rw[x];simp[b]
       have c:qk (.mk 1 0 [] a)=true:=(by simp[qk,b]);simp[b];refine qFQ d ?_ rfl;have h:jn 1=false:=(by simp[jn]);have x:qy (.mk 1 0 [] a)=0:=(by(simp[qy,c]<;>omega));rw[x,h];simp
     skip
     simp[*];refine qFQ g ?_ rfl;by_cases b:(a.length:Int)=zE 1
     rotate_left
     . have c:qk (.mk 1 n [] a)=false:=(by simp[qk,b]);have x:qy (.mk 1 n [] a)=1:=(by simp[qy,c]);rw[x];simp[b]
     have c:qk (.mk 1 n [] a)=true:=(by simp[qk,b]);simp[b];refine qFQ d ?_ rfl;have h:jn 1=false:=(by simp[jn]);have x:qy (.mk 1 n [] a)=0:=(by(simp[qy,c]<;>omega));rw[x,h];simp
   by_cases n0:n=0
   rotate_left
   . have x:qy (.mk op n [] a)=1:=(by simp[*,qy]);rw[x];have b1:(op==1)=false:=(by simpa using f);have A:(op != 1)=true:=(by simpa using f);have M:(n != 0)=true:=(by simpa using n0);simp[*]
   subst n0;by_cases o:op=2
   . subst o;simp[];refine qFQ g ?_ rfl;by_cases b:(a.length:Int)=zE 2
     rotate_left
     . have c:qk (.mk 2 0 [] a)=false:=(by simp[qk,b]);have x:qy (.mk 2 0 [] a)=1:=(by simp[qy,c]);rw[x];simp[b]
     have c:qk (.mk 2 0 [] a)=true:=(by simp[qk,b]);simp[b];refine qFQ v ?_ rfl;cases hv:kW []
     . have x:qy (.mk 2 0 [] a)=7:=(by simp[*,qy]);rw[x];simp
     have x:qy (.mk 2 0 [] a)=0:=(by simp[*,qy]);rw[x];simp;refine qFQ d ?_ rfl;simp[jn]
   by_cases m:op=3
   . subst m;simp[];refine qFQ g ?_ rfl;by_cases b:(a.length:Int)=zE 3
     rotate_left
     . have c:qk (.mk 3 0 [] a)=false:=(by simp[qk,b]);have x:qy (.mk 3 0 [] a)=1:=(by simp[qy,c]);rw[x];simp[b]
     have c:qk (.mk 3 0 [] a)=true:=(by simp[qk,b]);simp[b];refine qFQ d ?_ rfl;simp[jn];refine qFQ l ?_ rfl;cases hv:jc []
     . have x:qy (.mk 3 0 [] a)=7:=(by simp[*,qy]);rw[x];simp
     have x:qy (.mk 3 0 [] a)=0:=(by simp[*,qy]);rw[x];simp
   by_cases j:op=24
   . subst j;simp[];refine qFQ g ?_ rfl;by_cases b:(a.length:Int)=zE 24
     rotate_left
     . have c:qk (.mk 24 0 [] a)=false:=(by simp[qk,b]);have x:qy (.mk 24 0 [] a)=1:=(by simp[qy,c]);rw[x];simp[b]
     have c:qk (.mk 24 0 [] a)=true:=(by simp[qk,b]);simp[b];refine qFQ d ?_ rfl;simp[jn];refine qFQ l ?_ rfl;cases hv:jc []
     . have x:qy (.mk 24 0 [] a)=7:=(by simp[*,qy]);rw[x];simp
     have x:qy (.mk 24 0 [] a)=0:=(by simp[*,qy]);rw[x];simp
   by_cases i:op=23
   . subst i;by_cases L:a.length<3
     . have u:(a.length:Int)<3:=(by omega);have E:¬(3:Int)<=a.length:=(by omega);have c:qk (.mk 23 0 [] a)=false:=(by show decide (a.length%2=1/\3<=a.length/\a.length<=33)=false;exact decide_eq_false (by omega));have x:qy (.mk 23 0 [] a)=1:=(by simp[qy,c]);rw[x];simp[u]
     have u:¬(a.length:Int)<3:=(by omega);by_cases O:33<a.length
     . have y:(33:Int)<a.length:=(by omega);have N:¬(a.length:Int)<=33:=(by omega);have c:qk (.mk 23 0 [] a)=false:=(by show decide (a.length%2=1/\3<=a.length/\a.length<=33)=false;exact decide_eq_false (by omega));have x:qy (.mk 23 0 [] a)=1:=(by simp[qy,c]);rw[x];simp[*]
     have y:¬(33:Int)<a.length:=(by omega);by_cases J:a.length%2=0
     . have D:(a.length:Int)%2=0:=(by omega);have K:(a.length:Int).tmod 2=0:=(by rw[z];omega);have c:qk (.mk 23 0 [] a)=false:=(by show decide (a.length%2=1/\3<=a.length/\a.length<=33)=false;exact decide_eq_false (by omega));have x:qy (.mk 23 0 [] a)=1:=(by simp[qy,c]);rw[x];simp[*]
     have c:qk (.mk 23 0 [] a)=true:=(by show decide (a.length%2=1/\3<=a.length/\a.length<=33)=true;exact decide_eq_true (by omega));simp[u,y,show ¬(a.length:Int).tmod 2=0 by rw[z];omega];refine qFQ d ?_ rfl;have h:jn 23=false:=(by simp[jn]);have x:qy (.mk 23 0 [] a)=0:=(by simp[*,qy]);rw[x,h];simp
   have b1:(op==1)=false:=(by simpa using f);have A:(op != 1)=true:=(by simpa using f);have b2:(op==2)=false:=(by simpa using o);have I:(op != 2)=true:=(by simpa using o);have b3:(op==3)=false:=(by simpa using m);have C:(op != 3)=true:=(by simpa using m);have B:(op==24)=false:=(by simpa using j);have G:(op != 24)=true:=(by simpa using j);simp[*,show(op==23)=false by simpa using i,show(op != 23)=true by simpa using i];refine qFQ g ?_ rfl;by_cases b:(a.length:Int)=zE op
   rotate_left
   . have c:qk (.mk op 0 [] a)=false:=(by simp[*,qk]);have x:qy (.mk op 0 [] a)=1:=(by simp[qy,c]);rw[x];simp[b]
   have c:qk (.mk op 0 [] a)=true:=(by simp[*,qk]);simp[*];refine qFQ d ?_ rfl;have x:qy (.mk op 0 [] a)=0:=(by simp[*,qy]);rw[x,show jn op=false by simp[*,jn]];simp
 have t:s.isEmpty=false:=by simpa using r
 by_cases f:op=1
 . subst f;have x:qy (.mk 1 n s a)=1:=(by simp[qy,r]);rw[x];by_cases n0:n=0
   . subst n0;simp[*];refine qFQ d ?_ rfl;simp[jn]
   skip
   simp[*];refine qFQ d ?_ rfl;simp[jn]
 by_cases n0:n=0
 rotate_left
 . have x:qy (.mk op n s a)=1:=(by simp[*,qy]);rw[x];have b1:(op==1)=false:=(by simpa using f);simp[*,show(op != 1)=true by simpa using f,show(n != 0)=true by simpa using n0]
 subst n0;by_cases o:op=2
 . subst o;simp[t];refine qFQ d ?_ rfl;simp[jn];refine qFQ g ?_ rfl;by_cases b:(a.length:Int)=zE 2
   rotate_left
   . have c:qk (.mk 2 0 s a)=false:=(by simp[qk,b]);have x:qy (.mk 2 0 s a)=1:=(by simp[qy,c]);rw[x];simp[b]
   have c:qk (.mk 2 0 s a)=true:=(by simp[qk,b]);simp[b];refine qFQ v ?_ rfl;cases hv:kW s
   . have x:qy (.mk 2 0 s a)=7:=(by simp[*,qy]);rw[x];simp
   have x:qy (.mk 2 0 s a)=0:=(by simp[*,qy]);rw[x];simp;refine qFQ d ?_ rfl;simp[jn]
 by_cases m:op=3
 . subst m;simp[t];refine qFQ d ?_ rfl;simp[jn];refine qFQ g ?_ rfl;by_cases b:(a.length:Int)=zE 3
   rotate_left
   . have c:qk (.mk 3 0 s a)=false:=(by simp[qk,b]);have x:qy (.mk 3 0 s a)=1:=(by simp[qy,c]);rw[x];simp[b]
   have c:qk (.mk 3 0 s a)=true:=(by simp[qk,b]);simp[b];refine qFQ d ?_ rfl;simp[jn];refine qFQ l ?_ rfl;cases hv:jc s
   . have x:qy (.mk 3 0 s a)=7:=(by simp[*,qy]);rw[x];simp
   have x:qy (.mk 3 0 s a)=0:=(by simp[*,qy]);rw[x];simp
 by_cases j:op=24
 . subst j;simp[t];refine qFQ d ?_ rfl;simp[jn];refine qFQ g ?_ rfl;by_cases b:(a.length:Int)=zE 24
   rotate_left
   . have c:qk (.mk 24 0 s a)=false:=(by simp[qk,b]);have x:qy (.mk 24 0 s a)=1:=(by simp[qy,c]);rw[x];simp[b]
   have c:qk (.mk 24 0 s a)=true:=(by simp[qk,b]);simp[b];refine qFQ d ?_ rfl;simp[jn];refine qFQ l ?_ rfl;cases hv:jc s
   . have x:qy (.mk 24 0 s a)=7:=(by simp[*,qy]);rw[x];simp
   have x:qy (.mk 24 0 s a)=0:=(by simp[*,qy]);rw[x];simp
 by_cases i:op=23
 . subst i;have x:qy (.mk 23 0 s a)=1:=(by simp[qy,r]);rw[x];simp[t];refine qFQ d ?_ rfl;simp[jn]
 rw[show qy (.mk op 0 s a)=1 by simp[*,qy]];simp[*];refine qFQ d ?_ rfl;simp[*,jn]
def slS(V:List Str)(tv:Option Nat):AV:=match tv with
 |none=>.sl 0 [] .nil
 |some t=>.sl 1 (V.map jo) (.chain t V.length)
def TT(V:List Str)(tv:Option Nat)(T:List (Option Nat)):Prop:=match tv with
 |none=>V=[]
 |some t=>V≠[]/\T[t]?=some (some V.length)
structure OS(b:Nat)(n d f:Int)(V A:List Str)(tv ta:Option Nat)(σ0 σ:St):Prop where
 hb:σ.H[b]?=some (.cells [.int .i64 n,.int .i64 d,.int .i64 f,slS V tv,slS A ta])
 tV:TT V tv σ.T
 tA:TT A ta σ.T
 dis:tv≠none->tv≠ta
 len:σ0.H.length<=σ.H.length
 ext:∀x,x≠b->x<σ0.H.length->σ.H[x]?=σ0.H[x]?
structure SS(b be:Nat)(e:Ex)(n d f:Int)(V A:List Str)(tv ta:Option Nat)(σ0 σ:St):Prop extends OS b n d f V A tv ta σ0 σ where
 hbe:σ.H[be]?=some (.cells (qo e))
 ne:be≠b
 old:σ0.H.length<=be
def SS.set{b be:Nat}{e:Ex}{n d f n' d' f':Int}{V A g i:List Str}{tv ta a c:Option Nat}{σ0 σ:St}{T:List (Option Nat)}(h:SS b be e n d f V A tv ta σ0 σ)
 (l:TT g a T) (o:TT i c T) (hd:a≠none->a≠c):
 SS b be e n' d' f' g i a c σ0 ⟨σ.H.set b (.cells [.int .i64 n',.int .i64 d',.int .i64 f',slS g a,slS i c]),T⟩:=by
 have m:=(qBk.1 h.hb).1;refine⟨⟨?_,l,o,hd,by simpa using h.len,fun x j r=>?_⟩,?_,h.ne,h.old⟩
 . simp[m]
 . simp only[qDY];rw[if_neg (fun e=>j e.symm)];exact h.ext x j r
 simp only[qDY];rw[if_neg (fun e=>h.ne e.symm)];exact h.hbe
def TT.push{A ta T x}(h:TT A ta T):TT A ta (T++[x]):=by
 cases ta with
 |none=>exact h
 |some t=>exact⟨h.1,by rw[qBv (qBk.1 h.2).1];exact h.2⟩
def TT.set{A ta T t x}(h:TT A ta T)(a:some t≠ta):TT A ta (T.set t x):=by
 cases ta with
 |none=>exact h
 | some u=>
  refine⟨h.1,?_⟩;rw[qDY,if_neg (fun e=>a (by rw[e]))];exact h.2
def TT.ne{A ta T}(h:TT A ta T):some T.length≠ta:=by
 intro e;subst e;have:=(qBk.1 h.2).1;omega
def TT.one{s T}:TT [s] (some T.length) (T++[some 1]):=⟨by simp,by simp⟩
def TT.more{V s t T}(h:TT V (some t) T):TT (V++[s]) (some t) (T.set t (some (V.length+1))) :=
 ⟨by simp,by simp[(qBk.1 h.2).1]⟩
def OS.self{b:Nat}{n d f:Int}{V A:List Str}{tv ta:Option Nat}{σ0 σ:St}(h:OS b n d f V A tv ta σ0 σ):OS b n d f V A tv ta σ σ :=
 ⟨h.hb,h.tV,h.tA,h.dis,qBs _,fun _ _ _=>rfl⟩
def SS.then{b be:Nat}{e:Ex}{n d f n' d' f':Int}{V A i j:List Str}{tv ta g a:Option Nat}{σ0 σ σ':St}(h:SS b be e n d f V A tv ta σ0 σ)(h':OS b n' d' f' i j g a σ σ'):SS b be e n' d' f' i j g a σ0 σ':=by
 refine⟨⟨h'.hb,h'.tV,h'.tA,h'.dis,qCq h.len h'.len,fun x c l=>?_⟩,?_,h.ne,h.old⟩
 . rw[h'.ext x c (qBD l h.len)];exact h.ext x c l
 rw[h'.ext be h.ne (qBk.1 h.hbe).1];exact h.hbe
noncomputable def fst(f:Int)(l:List Ex):Int:=if f=0 then zd qy l else f
def qii{f l m}:fst f (l++m)=if fst f l=0 then zd qy m else fst f l:=by
 unfold fst;by_cases h:f=0
 . simp only[if_pos h,yl]
 simp only[if_neg h]
def qjS(V:List Str)(x:Ex):List Str:=if x.op=2/\V.any (· == x.name)=false then V++[x.name] else V
def W4(V:List Str)(l:List Ex):List Str:=l.foldl qjS V
@[simp]def quK(V):W4 V []=V:=rfl
@[simp]def qhL(V x l):W4 V (x::l)=W4 (qjS V x) l:=rfl
def qcl(V l m):W4 V (l++m)=W4 (W4 V l) m:=by unfold W4;rw[qCb]
def quL:∀(e),Wen e->∀(σ0) (b) (n d f) (V A:List Str) (tv ta:Option Nat) (dp:Int) (m:Nat),OS b n d f V A tv ta σ0 σ0->V.length+A.length<=m->m+(pre e).length<=200000000000->0<=dp->dp+hgt e<=1000000 ->
 qh prog GG 107 [.ptr b 0,.agg (qo e),.int .i64 dp] σ0 (fun r σ=>∃l v B D,OS b (IntKind.i64.wrap (n+(pre e).length)) (max d (dp+hgt e-1)) (if f=0 then zd qy (pre e) else f) l v B D σ0 σ/\l.length+v.length<=m+(pre e).length/\l=W4 V (pre e)):=by
 refine qF4 fun e ih N σ0 b n d f V A tv ta dp m E c1 b5 b8 b6=>?_
 have a2:=(qBk.1 E.hb).1;refine qh.vc func107 ?_
 -- the box
 refine Vf (fun env σ=>env 0=.ptr b 0/\env 2=.int .i64 dp/\env 4=.ptr σ0.H.length 0/\SS b σ0.H.length e n d f V A tv ta σ0 σ) rfl ?_ ?_
 . simp[qd e];refine⟨⟨by rw[qBv a2];exact E.hb,E.tV,E.tA,E.dis,by simp,fun x hx hl=>by rw[qBv hl]⟩,by simp[qd e],by omega,qBs _⟩
 rintro env σ ⟨h0,h2,g,c⟩
 -- the number of nodes
 refine Vf (fun env σ=>env 0=.ptr b 0/\env 2=.int .i64 dp/\env 4=.ptr σ0.H.length 0/\SS b σ0.H.length e (IntKind.i64.wrap (n+1)) d f V A tv ta σ0 σ) rfl ?_ ?_
 . simp[*,c.hb];exact c.set c.tV c.tA c.dis
 rintro env σ ⟨h0,h2,g,c⟩
 -- the depth
 refine Vf (fun env σ=>env 0=.ptr b 0/\env 2=.int .i64 dp/\env 4=.ptr σ0.H.length 0/\SS b σ0.H.length e (IntKind.i64.wrap (n+1)) (max d dp) f V A tv ta σ0 σ) rfl ?_ ?_
 . by_cases hd:d<dp
   . simp[*,c.hb];have:max d dp=dp:=by omega
     rw[this];exact c.set c.tV c.tA c.dis
   . simp[*,c.hb];have:max d dp=d:=by omega
     rwa[this]
 rintro env σ ⟨h0,h2,g,c⟩
 -- the first error
 refine Vf (fun env σ=>env 0=.ptr b 0/\env 2=.int .i64 dp/\env 4=.ptr σ0.H.length 0/\SS b σ0.H.length e (IntKind.i64.wrap (n+1)) (max d dp) (if f=0 then qy e else f) V A tv ta σ0 σ) rfl ?_ ?_
 . by_cases X:f=0
   . subst X;have hbe:=c.hbe;rw[qd]at hbe;simp[*,c.hb];rw[<- qd e];refine qFQ (qmG e N.nm) ?_;simp[c.hb];exact c.set c.tV c.tA c.dis
   . simp[h0,h2,g,c.hb,X];exact c
 rintro env σ ⟨h0,h2,g,c⟩
 -- a variable's name
 refine Vf (fun env σ=>env 0=.ptr b 0/\env 2=.int .i64 dp/\env 4=.ptr σ0.H.length 0/\∃l B,SS b σ0.H.length e (IntKind.i64.wrap (n+1)) (max d dp) (if f=0 then qy e else f) l A B ta σ0 σ/\l.length<=V.length+(if e.op=2 then 1 else 0)/\l=qjS V e) rfl ?_ ?_
 . have hbe:=c.hbe;rw[qd]at hbe;by_cases o:e.op=2
   . cases tv with
     | none=>
      have hV:=c.tV;subst hV;have hb:=c.hb;simp only[slS]at hb;simp[*];refine qFR (qgB GG [] e.name (by simp)) (by simp) (by simp[Leq]) ?_;simp[*,qm,qe,qp,qR];have F:qjS [] e=[e.name]:=(by simp[qjS,o]);rw[F];refine⟨⟨some σ.T.length,?_⟩,by simp⟩;have:=c.set (n':=IntKind.i64.wrap (n+1)) (d':=max d dp) (f':=if f=0 then qy e else f) (TT.one (s:=e.name) (T:=σ.T)) (c.tA.push (x:=some 1)) (fun _=>c.tA.ne);simpa[slS] using this
     | some t=>
      have hb:=c.hb;simp only[slS]at hb;have a3:=c.tV.2;simp[h0,g,hb,hbe,o];refine qF5 (qgB GG V e.name (by omega)) (by simp) (by simp) ?_;cases hh:V.any (· == e.name)
      . have M:V.length+1<=549755813888:=(by omega);simp[h0,h2,g,hb,hbe,qm,qe,qp,qR,a3,M];have F:qjS V e=V++[e.name]:=(by unfold qjS;rw[if_pos ⟨o,hh⟩]);rw[F];refine⟨⟨some t,?_⟩,by simp⟩;have:=c.set (n':=IntKind.i64.wrap (n+1)) (d':=max d dp) (f':=if f=0 then qy e else f) (TT.more (s:=e.name) c.tV) (c.tA.set (t:=t) (x:=some (V.length+1)) (c.dis (by simp))) (fun _=>c.dis (by simp));simpa[slS] using this
      simp[h0,h2,g];have F:qjS V e=V:=(by unfold qjS;rw[if_neg (fun h=>by rw[hh]at h;simp at h)]);rw[F];exact⟨⟨some t,c⟩,by omega⟩
   simp[h0,h2,g,c.hb,hbe,o];rw[show qjS V e=V by unfold qjS;rw[if_neg (fun h=>o h.1)]];exact⟨⟨tv,c⟩,qBs _⟩
 rintro env σ ⟨h0,h2,g,G,L,c,R,b0⟩;have b7:G.length+A.length<=m+(if e.op=2 then 1 else 0):=by omega
 have a8:∀u,ta=some u->some u≠L:=fun u hu e=>by
  have:=c.dis (by rw[<- e];simp);exact this (by rw[hu,<- e])
 -- an array's name
 refine Vf (fun env σ=>env 0=.ptr b 0/\env 2=.int .i64 dp/\env 4=.ptr σ0.H.length 0/\∃v D,SS b σ0.H.length e (IntKind.i64.wrap (n+1)) (max d dp) (if f=0 then qy e else f) G v L D σ0 σ/\v.length<=A.length+(if e.op=3\/e.op=24 then 1 else 0)) rfl ?_ ?_
 . have hbe:=c.hbe;rw[qd]at hbe;by_cases j:e.op=3\/e.op=24
   . rcases j with j|j
     all_goals
      cases ta with
      | none=>
       have hA:=c.tA;subst hA;have hb:=c.hb;simp only[slS]at hb;simp[h0,g,hb,hbe,j];refine qFR (qgB GG [] e.name (by simp)) (by simp) (by simp[Leq]) ?_;simp[h0,h2,g,hb,hbe,j,qm,qe,qp,qR];refine⟨[e.name],⟨some σ.T.length,?_⟩,by simp⟩;have:=c.set (n':=IntKind.i64.wrap (n+1)) (d':=max d dp) (f':=if f=0 then qy e else f) (c.tV.push (x:=some 1)) (TT.one (s:=e.name) (T:=σ.T)) (fun _ e=>c.tV.ne e.symm);simpa[slS] using this
      | some t=>
       have hb:=c.hb;simp only[slS]at hb;have a4:=c.tA.2;simp[h0,g,hb,hbe,j];refine qF5 (qgB GG A e.name (by omega)) (by simp) (by simp) ?_;cases hh:A.any (· == e.name)
       . have M:A.length+1<=549755813888:=(by omega);simp[h0,h2,g,hb,hbe,j,qm,qe,qp,qR,a4,M];refine⟨A++[e.name],⟨some t,?_⟩,by simp⟩;have:=c.set (n':=IntKind.i64.wrap (n+1)) (d':=max d dp) (f':=if f=0 then qy e else f) (c.tV.set (t:=t) (x:=some (A.length+1)) (a8 t rfl)) (TT.more (s:=e.name) c.tA) (fun h=>c.dis h);simpa[slS] using this
       simp[h0,h2,g];exact⟨A,⟨some t,c⟩,by omega⟩
   have b4:¬e.op=3:=fun h=>j (.inl h)
   simp[h0,h2,g,c.hb,hbe,b4,show ¬e.op=24 from fun h=>j (.inr h)];exact⟨A,⟨ta,c⟩,qBs _⟩
 rintro env σ ⟨h0,h2,g,W,a1,c,Y⟩;have S:G.length+W.length<=m+1:=by
  by_cases o:e.op=2
  . rw[if_pos o]at R;rw[if_neg (by omega)]at Y;omega
  rw[if_neg o]at R;split at Y<;>omega
 have hl:=N.fits;have b1:(if f=0 then qy e else f)=fst f [e]:=by
  unfold fst;by_cases h:f=0
  . simp only[if_pos h,zd];split
    . assumption
    . rfl
  simp only[if_neg h]
 rw[b1]at c;have b2:(pre e).length=(vt e.args).length+1:=by rw[jv,qBB]
 simp;refine qF3 (fun q env σ=>∃i w z K I,i<=e.args.length/\q=e.args.length-i/\env 0=.ptr b 0/\env 2=.int .i64 dp/\env 4=.ptr σ0.H.length 0/\env 6=.int .i64 i/\SS b σ0.H.length e (IntKind.i64.wrap (n+((vt (e.args.take i)).length+1:Nat))) (max d (dp+Yn (e.args.take i))) (fst f (e::vt (e.args.take i))) w z K I σ0 σ/\w.length+z.length<=m+1+(vt (e.args.take i)).length/\w=W4 V (e::vt (e.args.take i))) e.args.length ⟨0,G,W,L,a1,by simp,by simp,by simp[h0],by simp[h2],by simp[g],by simp,by simpa using c,by simpa using S,by simp[b0]⟩ ?_;clear h0 h2 g c S;rintro q env σ ⟨i,w,z,K,I,hi,rfl,h0,h2,g,P,c,Z,J⟩;have hbe:=c.hbe;rw[qd]at hbe
 cases hv:e.args[i]? with
 | some a=>
  obtain⟨Q,a7⟩:=qBk.1 hv;have O:=qBl hv;have c2:=qk4 O;have U:e.args.take (i+1)=e.args.take i++[a]:=by rw[qBQ,hv];rfl
  have C:vt (e.args.take (i+1))=vt (e.args.take i)++pre a:=by rw[U,vo];simp
  have a5:Yn (e.args.take (i+1))=max (Yn (e.args.take i)) (hgt a):=by rw[U,Wn];simp
  have c0:(vt (e.args.take i)).length+(pre a).length<=(vt e.args).length:=by
   have:e.args=e.args.take (i+1)++e.args.drop (i+1):=(qB9 _ _).symm;have y:(vt e.args).length=(vt (e.args.take (i+1))).length+(vt (e.args.drop (i+1))).length:=by
    conv=>lhs;rw[this,vo,qBp]
   rw[C,qBp]at y;omega
  have a9:IntKind.i64.wrap (dp+1)=dp+1:=wr;simp[h0,h2,g,P,hbe,Q,a7,qd a,a9];rw[<- qd a];refine qFU (ih a O (N.arg O) σ b _ _ _ w z K I (dp+1) (m+1+(vt (e.args.take i)).length) c.toOS.self Z (by omega) (by omega) (by omega)) ?_;rintro r σ' ⟨l,v,B,D,a0,b9,a6⟩
  try simp[h0,h2,g,P]
  refine⟨_,by omega,i+1,by omega,rfl,wr,l,v,⟨B,D,?_⟩,?_,?_⟩
  . have h:=c.then a0;have e1:IntKind.i64.wrap (IntKind.i64.wrap (n+((vt (e.args.take i)).length+1:Nat))+(pre a).length)=IntKind.i64.wrap (n+((vt (e.args.take (i+1))).length+1)):=by
     rw[qfp,C,qBp];congr 1;omega
    have y:max (max d (dp+Yn (e.args.take i))) (dp+1+hgt a-1)=max d (dp+Yn (e.args.take (i+1))):=by
     rw[a5];omega
    have e3:(if fst f (e::vt (e.args.take i))=0 then zd qy (pre a) else fst f (e::vt (e.args.take i)))=fst f (e::vt (e.args.take (i+1))):=by
     rw[C,<- qBV,qii]
    rwa[e1,y,e3]at h
  . rw[C,qBp];omega
  rw[a6,J,C,qhL,qcl]
 | none=>
  have Q:¬i<e.args.length:=by simp at hv;omega
  have ht:e.args.take i=e.args:=qBr (by omega);rw[ht,<- b2,<- jv]at c;rw[ht]at Z J;rw[<- jv]at J;have y:max d (dp+Yn e.args)=max d (dp+hgt e-1):=by rw[w8 e];omega
  rw[y]at c;simp[g,P,hbe,Q];exact⟨w,z,⟨K,I,c.toOS⟩,by omega,J⟩
