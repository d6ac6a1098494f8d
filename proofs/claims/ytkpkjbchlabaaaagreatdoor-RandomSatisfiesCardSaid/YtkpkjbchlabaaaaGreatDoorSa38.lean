/- A part of the proof. -/
import Derived.Test.YtkpkjbchlabaaaaGreatDoorSa35
import Derived.Test.YtkpkjbchlabaaaaGreatDoorSa36
import Derived.Test.YtkpkjbchlabaaaaGreatDoorSa37
set_option linter.unusedVariables false
set_option linter.unusedSimpArgs false
set_option maxRecDepth 100000
set_option maxHeartbeats 16000000
set_option linter.defProp false
section
namespace Go.Proofs.YtkpkjbchlabaaaaGreatDoor
open Go Go.Abs
theorem KW (n:Nat):sat n=min n 1099511627777:=rfl
theorem qhp (a b:Nat)(ha:a<=lim)(hb:b<=lim):Pure Tryz.prog GG 169 [.int .i64 a,.int .i64 b] (.int .i64 (sat (a+b):Nat)):=by
 refine Pure.k qe Tryz.func169 rfl (by kernel_rfl) ?_;unfold lim at ha hb;have hw:=wr (n:=(a:Int)+b) (by omega) (by omega);have hm:w7 (.int .i64 ((a:Int)+b)) (.int .i64 1099511627777)=some (.int .i64 (sat (a+b):Nat)):=by
  simp only[w7,KW];congr 2;split<;>omega
 simp[-getElem?_pos,hw,hm]
theorem WS (a b:Nat)(ha:a<=lim)(hb:b<=lim):Pure Tryz.prog GG 69 [.int .i64 a,.int .i64 b] (.int .i64 (sat (a*b):Nat)):=by
 refine Pure.k qe Tryz.func69 rfl (by kernel_rfl) ?_;unfold lim at ha hb;by_cases h1:a=0
 . subst h1;simp[-getElem?_pos,KW]
 by_cases h2:b=0
 . subst h2;simp[-getElem?_pos,h1,KW]
 have hq:(1099511627777:Int).tdiv (b:Int)=((1099511627777 / b:Nat):Int):=by
  rw[qsm (by omega)];simp
 have hqle:1099511627777 / b<=1099511627777:=qrs _ _;have hwq:IntKind.i64.wrap ((1099511627777 / b:Nat):Int)=((1099511627777 / b:Nat):Int):=by
  generalize 1099511627777 / b=q at *;exact wr (by omega) (by omega)
 have h2':¬ (b:Int)=0:=by omega
 have h1':¬ (a:Int)=0:=by omega
 by_cases hgt:1099511627777 / b<a
 . have hgt':((1099511627777 / b:Nat):Int)<(a:Int):=Int.ofNat_lt.2 hgt;have hs:sat (a*b)=1099511627777:=by
    have:1099511627777<a*b:=(Nat.div_lt_iff_lt_mul (by omega)).1 hgt;rw[KW];omega
   generalize 1099511627777 / b=q at *;simp[-getElem?_pos,-zp,qaP,Z5,qmY,h1,h2,h1',h2',hs,show zp .quo .i64 1099511627777 b=some (.int .i64 (q:Int)) by simp only[zp];rw[if_neg h2',hq,hwq],hgt]
 . have hgt':¬ ((1099511627777 / b:Nat):Int)<(a:Int):=fun h=>hgt (Int.ofNat_lt.1 h)
   have hle:a*b<=1099511627777:=(Nat.le_div_iff_mul_le (by omega)).1 (by omega);have hww:=wr (n:=(a:Int)*b) (by
    have:(0:Int)<=(a:Int)*b:=by rw[<- qsw];omega
    omega) (by
    rw[<- qsw];omega)
   have hm:w7 (.int .i64 ((a:Int)*b)) (.int .i64 1099511627777)=some (.int .i64 (sat (a*b):Nat)):=by
    simp only[w7,KW];rw[<- qsw];congr 2;split<;>omega
   generalize hqq:1099511627777 / b=q at *;simp[-getElem?_pos,-zp,qaP,op_mul,qmY,h1,h2,h1',h2',show zp .quo .i64 1099511627777 b=some (.int .i64 (q:Int)) by simp only[zp];rw[if_neg h2',hq,hwq],hgt,hww,hm]
def jf (n:Nat)(l:List Dist):List (Option (List Weight)):=l.foldl (fun o d=>o.set d.var.toNat (some d.weights)) (List.replicate n none)
def qiE (o:Option (List Weight)):List AV:=match o with
 | none=>[.sl 0 [] .nil]
 | some w=>[.sl 4 (w.map qC) .none]
theorem yr (n:Nat)(l:List Dist):(jf n l).length=n:=by
 have:∀ (l:List Dist) (o:List (Option (List Weight))),(l.foldl (fun o d=>o.set d.var.toNat (some d.weights)) o).length=o.length:=by
  intro l
  induction l with
  | nil=>intro o;rfl
  | cons a r ih=>intro o;rw[qqR,ih];simp
 unfold jf;rw[this];simp
theorem qcI (n:Nat)(l:List Dist)(d:Dist):jf n (l++[d])=(jf n l).set d.var.toNat (some d.weights):=by simp[jf,qrp]
theorem qfQ {n:Nat}:∀ {l:List Dist} {w:List Weight},some w∈jf n l->∃ d∈l,d.weights=w:=by
 have gen:∀ (l:List Dist) (o:List (Option (List Weight))) (w:List Weight),some w∈l.foldl (fun o d=>o.set d.var.toNat (some d.weights)) o->some w∈o\/∃ d∈l,d.weights=w:=by
  intro l
  induction l with
  | nil=>intro o w h;exact .inl h
  | cons a r ih=>
   intro o w h;rw[qqR]at h;rcases ih _ w h with h|⟨d,hd,he⟩
   . rcases qr5 h with h|h
     . exact .inl h
     . cases h;exact .inr ⟨a,by simp,rfl⟩
   . exact .inr ⟨d,by simp[hd],he⟩
 intro l w h;rcases gen l _ w h with h|h
 . rw[qrH]at h;cases h.2
 . exact h
def WFn (p:Problem)(L LL:Nat)(H:List Blk):Prop:=∃ c,H[L]?=some (.cells [c])/\(p.vars≠[]->c=.ms LL 0 p.vars.length 1/\H[LL]?=some (.cells ((jf p.vars.length p.dists).flatMap qiE)))
def WghQ (p:Problem)(H:List Blk)(r:AV)(U':St):Prop:=KpL [] H U'.H/\∃ L LL,r=.fn 98 [] [.ptr L 0]/\H.length<=L/\H.length<=LL/\WFn p L LL U'.H
theorem qiD (o:Option (List Weight)):(qiE o).length=1:=by cases o<;>rfl
theorem qjO (p:Problem)(h:VQ p)(hv:qj p=0)(H:List Blk)(T:List (Option Nat)):qf Tryz.prog GG 51 [.agg (qE p)] ⟨H,T⟩ (WghQ p H):=by
 refine qf.k qe Tryz.func51 rfl (by kernel_rfl) ?_;have hvd:=qgI hv;have hvl:=h.vars;have hdf:=h.dists;by_cases hv0:p.vars=[]
 . have hd0:p.dists=[]:=by
    apply qs6.2;intro d hd;obtain⟨i,v,_,hi⟩:=hvd d hd;rw[hv0]at hi;simp at hi
   have fin:∀ (u:List Blk) (T':List (Option Nat)) (B0:Blk) (c:AV),WghQ p H (.fn 98 [] [.ptr (H.length+1) 0]) ⟨H++B0::.cells [c]::u,T'⟩:=fun u T' B0 c=>⟨KpL.app,H.length+1,H.length+1,rfl,by omega,by omega,c,lk1,fun hn=>absurd hv0 hn⟩
   simp[-getElem?_pos,hv0,hd0,qx];refine qX.gen (fun m ev U=>ev 3=.ptr (H.length+1) 0/\ev 12=.int .i64 0/\ev 13=.int .i64 0/\∃ B0 c u T',U=⟨H++B0::.cells [c]::u,T'⟩) 0 ⟨by simp,by simp,by simp,_,_,_,_,rfl⟩ ?_;rintro m ev U R hR ⟨e3,e12,e13,B0,c,u,T',rfl⟩;simp[-getElem?_pos,e3,e12,e13];exact fin _ _ _ _
 . have hpos:=qqt.2 hv0;have hne:¬ (p.vars.length:Int)=0:=(by omega);have hle:(p.vars.length:Int)<=549755813888:=(by omega);simp[-getElem?_pos,hv0,hne,hle,qx];refine qX.listR p.dists (fun d ev U=>ev 3=.ptr (H.length+2) 0/\ev 11=.sl 2 (p.dists.map zH) .none/\ev 12=.int .i64 p.dists.length/\ev 13=.int .i64 d.length/\KpL [] H U.H/\U.H[H.length+2]?=some (.cells [.ms (H.length+1) 0 p.vars.length 1])/\U.H[H.length+1]?=some (.cells ((jf p.vars.length d).flatMap qiE))) ?_ ?_ ?_
   . refine⟨by simp,by simp,by simp,by simp,KpL.app,lk2,?_⟩;have:(jf p.vars.length []).flatMap qiE=List.replicate p.vars.length (.sl 0 [] .nil):=by
      show (List.replicate p.vars.length none).flatMap qiE=_;rw[qr0,qsU];show (List.replicate p.vars.length [AV.sl 0 [] .nil]).flatten=_;simp
     rw[this];exact lk1
   . rintro d x rest ev ⟨H1,T1⟩ R hR hd hx hlt ⟨e3,e11,e12,e13,hkp,b2,b1⟩;dsimp only at hkp b2 b1;have hdw:=wr (n:=(d.length:Int)+1) (by unfold Fits at hdf;omega) (by unfold Fits at hdf;omega);have hlt':(d.length:Int)<p.dists.length:=(by omega);obtain⟨i,v,hi,hvi⟩:=hvd x (qqd hx);have hil:=(qqc.1 hvi).1;have hil':(i:Int)<p.vars.length:=(by omega);have hi1:i+1<=p.vars.length:=hil;have hll:=yr p.vars.length d;have hfl:=Go.Abs.z9 (sz:=1) qiD (jf p.vars.length d);rw[hll,Nat.mul_one]at hfl;have hset:((jf p.vars.length d).flatMap qiE).set i (.sl 4 (x.weights.map qC) .none)=(jf p.vars.length (d++[x])).flatMap qiE:=by
      have:=vS qiD (jf p.vars.length d) i (some x.weights) (by omega);rw[qcI,hi,qqT,<- this];simp[qiE,zj]
     have hl1:=(qqc.1 b1).1;generalize (jf p.vars.length d).flatMap qiE=F at *;simp[-getElem?_pos,e3,e11,e12,e13,hlt,hlt',hx,qa b2,qa b1,yQ b1,hi,hil',hfl,hi1,hset,hdw];refine hR _ _ ⟨by simp[e3],by simp[e11],by simp[e12],by simp,(hkp.setF (by omega)).trans KpL.app,qa (by rw[qqf (by omega)];exact b2) _,qa (qqh hl1) _⟩
   . rintro ev ⟨H1,T1⟩ ⟨e3,e11,e12,e13,hkp,b2,b1⟩;dsimp only at hkp b2 b1;simp[-getElem?_pos,e3,e12,e13];exact⟨hkp,H.length+2,H.length+1,rfl,by omega,by omega,_,b2,fun _=>⟨rfl,b1⟩⟩
def wtO (o:Option (List Weight))(v:Int):Nat:=match o with
 | none=>1
 | some w=>if (jT w v).2≠0 then lim else sat (jT w v).1.toNat
theorem wtO_le (o:Option (List Weight))(v:Int):wtO o v<=lim:=by
 unfold wtO;split
 . unfold lim;omega
 . split
   . exact qqn _
   . exact Yf _
theorem qpn (n:Nat):0<=(qb1 n).1:=by
 unfold qb1;split<;>simp
theorem qe0 (l:List Weight)(v:Int):0<=(jT l v).1:=by
 unfold jT;split
 . simp
 . split
   . simp
   . unfold Zl;split
     . simp
     . split<;>exact qpn _
def qc8 (o:Option (List Weight)):AV:=match o with
 | none=>.sl 0 [] .nil
 | some w=>.sl 4 (w.map qC) .none
theorem qpy (o:Option (List Weight)):qiE o=[qc8 o]:=by cases o<;>rfl
theorem flatL (l:List (Option (List Weight))):l.flatMap qiE=l.map qc8:=by
 induction l with
 | nil=>rfl
 | cons a r ih=>rw[qqD,ih,qpy];rfl
theorem qk6 {α:Type}(f:α->AV){l:List α}{i:Nat}{x:α}(h:l[i]?=some x):(l.map f).drop i=f x::(l.map f).drop (i+1):=by
 obtain⟨h1,h2⟩:=qqc.1 h;rw[qqu (by simpa using h1),qrB,h2]
theorem WH (p:Problem){L LL:Nat}{H:List Blk}(hw:WFn p L LL H){i:Nat}{o:Option (List Weight)}(hi:(jf p.vars.length p.dists)[i]?=some o)(ho:∀ w,o=some w->w≠[]/\w.length<=1000)(v:Int)(T:List (Option Nat)) :
 qf Tryz.prog GG 98 [.int .i64 (i:Int),.int .i64 v,.ptr L 0] ⟨H,T⟩ (fun r U'=>r=.int .i64 (wtO o v:Nat)/\U'=⟨H,T⟩):=by
 refine qf.k qe Tryz.func98 rfl (by kernel_rfl) ?_;have hil:=(qqc.1 hi).1;rw[yr]at hil;have hne:p.vars≠[]:=fun e=>by rw[e]at hil;simp at hil
 obtain⟨c,hL,hc⟩:=hw;obtain⟨rfl,hLL⟩:=hc hne;rw[flatL]at hLL;have hdr:=qk6 qc8 hi;have hlen:((jf p.vars.length p.dists).map qc8).length=p.vars.length:=by rw[qqS,yr]
 have hil':(i:Int)<p.vars.length:=by omega
 have hi1:i+1<=p.vars.length:=hil;generalize (jf p.vars.length p.dists).map qc8=F at *
 cases o with
 | none=>
  simp[-getElem?_pos,hL,hLL,hil',hi1,hlen,hdr,qc8,qU,Zq,TD.isSl,wtO]
 | some w=>
  obtain⟨hwn,hwl⟩:=ho w rfl;obtain⟨a,r,rfl⟩:=qsK hwn;have h51:=qdr (a::r) hwl v;have hnn:=qe0 (a::r) v;have hwt:wtO (some (a::r)) v=if (jT (a::r) v).2≠0 then lim else sat (jT (a::r) v).1.toNat:=rfl
  rw[hwt];generalize jT (a::r) v=wd at *;obtain⟨x,e⟩:=wd;simp only at hnn h51 ⊢;have hm:w7 (.int .i64 x) (.int .i64 1099511627777)=some (.int .i64 (sat x.toNat:Nat)):=by
   simp only[w7,KW];congr 2;split<;>omega
  simp[-getElem?_pos,hL,hLL,hil',hi1,hlen,hdr,qc8,qU,Zq,TD.isSl];refine qc.call (by simpa using h51) (by simp) ?_;by_cases he:e=0
  . simp[-getElem?_pos,he,hm]
  . simp[-getElem?_pos,he,lim]
structure Spc where
 S:Nat
 L:Nat
 LL:Nat
 p:Problem
 R:List Ex
 rtok:Tok
 lv:List Int
 dv:AV
 root:Nat
 small:Bool
def spE (s:Spc):List AV:=qE s.p++[.sl 4 (s.R.map qr) s.rtok,.sl 1 (s.lv.map qt) .none,s.dv,.int .i64 s.root,.bool s.small,.fn 98 [] [.ptr s.L 0]]
structure SpOk (s:Spc)(H:List Blk):Prop where
 c:H[s.S]?=some (.cells (spE s))
 w:WFn s.p s.L s.LL H
 b:s.LL<H.length
theorem SpOk.keep {s:Spc}{H H':List Blk}{bs:List Nat}(h:SpOk s H)(hk:KpL bs H H')(h1:s.S∉bs)(h2:s.L∉bs)(h3:s.LL∉bs):SpOk s H':=by
 refine⟨hk.2 _ _ h.c h1,?_,qqr h.b hk.1⟩;obtain⟨c,hL,hc⟩:=h.w;exact⟨c,hk.2 _ _ hL h2,fun hn=>⟨(hc hn).1,hk.2 _ _ (hc hn).2 h3⟩⟩
theorem qlx {d:List Nd}(h:DagOk d){f:Nat}(hf:f<d.length)(L:Nat)(o:Bool):jR d f L o<d.length:=by
 have hn:=qqe hf;unfold jR;rw[hn];simp only;split
 . by_cases h2:2<=f
   . obtain⟨g1,g2,g3,g4,g5,g6⟩:=h.node f _ h2 hn;split<;>omega
   . have ht:=h.two;have:f=0\/f=1:=by omega
     rcases this with rfl|rfl
     . have e:=h.n0;rw[hn]at e;rw[Option.some.inj e];split<;>simp<;>omega
     . have e:=h.n1;rw[hn]at e;rw[Option.some.inj e];split<;>simp<;>omega
 . exact hf
def wM (d:List Nd)(l w:Nat)(v:Nat)(node:Nat)(k:Nat):Nat:=(List.range k).foldl (fun node k=>jR d node (l+k) (v.testBit (w-1-k))) node
theorem ZL (d:List Nd)(l w v node k:Nat):wM d l w v node (k+1)=jR d (wM d l w v node k) (l+k) (v.testBit (w-1-k)):=by simp[wM,qrG,qrp]
theorem JO {d:List Nd}(h:DagOk d){node:Nat}(hn:node<d.length)(l w v:Nat):∀ k,wM d l w v node k<d.length
 | 0=>hn
 | k+1=>by rw[ZL];exact qlx h (JO h hn l w v k) _ _
theorem qmr (n i:Nat)(hn:n<2 ^ 63):zp .and .i64 ((n:Int).fdiv (2 ^ i)) 1=some (.int .i64 (if n.testBit i=true then 1 else 0)):=by
 rw[qjs n i hn];cases n.testBit i<;>rfl
theorem Wx {s:Spc}{H:List Blk}(h:SpOk s H){d:List Nd}{tok:Tok}(hd:DagOk d)(hdv:s.dv=.sl 3 (d.map qw) tok){i l node val:Nat}{v:Var}(hv:s.p.vars[i]?=some v)(hl:s.lv[i]?=some (l:Int))(hw:0<=v.width/\v.width<=8)(hlw:l<=20)(hn:node<d.length)(hval:val<2 ^ 16)(T:List (Option Nat)) :
 qf Tryz.prog GG 108 [.ptr s.S 0,.int .i64 node,.int .i64 i,.int .i64 val] ⟨H,T⟩ (fun r U'=>r=.int .i64 (wM d l v.width.toNat val node v.width.toNat:Nat)/\KpL [] H U'.H):=by
 refine qf.k qe Tryz.func108 rfl (by kernel_rfl) ?_;have hS:=h.c;have hil:=(qqc.1 hv).1;have hill:=(qqc.1 hl).1;have hdm:=hd.most;simp only[spE,qE,qqz,qqw,hdv]at hS;have hwn:v.width=(v.width.toNat:Int):=by omega
 generalize hwN:v.width.toNat=w at *;simp[-getElem?_pos,hS,hv,hil,hwn];refine yE w (fun k ev U=>ev 0=.ptr s.S 0/\ev 1=.int .i64 (wM d l w val node k:Nat)/\ev 2=.int .i64 (i:Int)/\ev 3=.int .i64 (val:Int)/\ev 9=.int .i64 (w:Int)/\ev 21=.int .i64 (w:Int)/\ev 22=.int .i64 (k:Int)/\KpL [] H U.H) ?_ ?_ ?_
 . exact⟨by simp,by simp[wM],by simp,by simp,by simp,by simp,by simp,KpL.refl⟩
 . rintro k ev ⟨H1,T1⟩ R hR hkw ⟨e0,e1,e2,e3,e9,e21,e22,hkp⟩;dsimp only at hkp;have hS1:=hkp.2 _ _ hS (by simp);have hnl:=JO hd hn l w val k;have hsucc:=ZL d l w val node k;generalize wM d l w val node k=nd at *;obtain⟨n,hnn⟩:∃ n,d[nd]?=some n:=⟨_,qqe hnl⟩;have hk':(k:Int)<w:=(by omega);have hwk:=wr (n:=(k:Int)+1) (by omega) (by omega);have hlk:=wr (n:=(l:Int)+k) (by omega) (by omega);have hw1:=wr (n:=(w:Int)-1) (by omega) (by omega);have hw2:=wr (n:=(w:Int)-1-k) (by omega) (by omega);have hsub:(w:Int)-1-k=((w-1-k:Nat):Int):=(by omega);rw[hsub]at hw2;have hmin:min (w-1-k) 64=w-1-k:=(by omega);have hand:=qmr val (w-1-k) (by omega);have hneg:¬ ((w-1-k:Nat):Int)<0:=(by omega);unfold jR at hsucc;rw[hnn]at hsucc;simp only at hsucc;generalize hm:w-1-k=m at *;by_cases hlv:n.1=l+k
   . have hlv':(n.1:Int)=(l:Int)+k:=(by omega);rw[if_pos hlv]at hsucc
     cases hbit:val.testBit m with
     | true=>
      rw[hbit,if_pos rfl]at hsucc;rw[hbit]at hand;simp[-getElem?_pos,-zp,qd7,Z5,Yy,qhy,qaP,e0,e1,e2,e3,e9,e21,e22,hk',qa hS1,hS1,hnn,hnl,hl,hill,hlk,hlv',hw1,hsub,hw2,hmin,IntKind.bits,hand,hneg,hwk];exact hR _ _ ⟨by simp[e0],by simp[hsucc],by simp[e2],by simp[e3],by simp[e9],by simp[e21],by simp,hkp.trans KpL.app⟩
     | false=>
      rw[hbit,if_neg (by simp)]at hsucc;rw[hbit]at hand;simp[-getElem?_pos,-zp,qd7,Z5,Yy,qhy,qaP,e0,e1,e2,e3,e9,e21,e22,hk',qa hS1,hS1,hnn,hnl,hl,hill,hlk,hlv',hw1,hsub,hw2,hmin,IntKind.bits,hand,hneg,hwk];exact hR _ _ ⟨by simp[e0],by simp[hsucc],by simp[e2],by simp[e3],by simp[e9],by simp[e21],by simp,hkp.trans KpL.app⟩
   . have hlv':¬ (n.1:Int)=(l:Int)+k:=(by omega);rw[if_neg hlv]at hsucc;simp[-getElem?_pos,-zp,qd7,Z5,Yy,qhy,qaP,e0,e1,e2,e3,e9,e21,e22,hk',qa hS1,hS1,hnn,hnl,hl,hill,hlk,hlv',hwk];exact hR _ _ ⟨by simp[e0],by simp[e1,hsucc],by simp[e2],by simp[e3],by simp[e9],by simp[e21],by simp,hkp.trans KpL.app⟩
 . rintro ev ⟨H1,T1⟩ ⟨e0,e1,e2,e3,e9,e21,e22,hkp⟩;simp[-getElem?_pos,e0,e1,e2,e3,e9,e21,e22];exact hkp
def qgo (m:AV)(fx:Nat->Option Nat)(H:List Blk):Prop :=
 (m=.nilm/\∀ i,fx i=none)\/∃ F es n,m=.map F/\H[F]?=some (.map es n)/\∀ i:Nat,match fx i with
   | none=>jy (.int .i64 (i:Int)) es 0=some none
   | some x=>∃ j,jy (.int .i64 (i:Int)) es 0=some (some (j,.int .i64 (x:Int)))
theorem qgo.keep {m:AV}{fx:Nat->Option Nat}{H H':List Blk}{bs:List Nat}(h:qgo m fx H)(hk:KpL bs H H')(hb:∀ F,m=.map F->F∉bs):qgo m fx H':=by
 rcases h with h|⟨F,es,n,rfl,hF,h⟩
 . exact .inl h
 . exact .inr ⟨F,es,n,rfl,hk.2 _ _ hF (hb F rfl),h⟩
theorem qgo.look {m:AV}{fx:Nat->Option Nat}{H:List Blk}(h:qgo m fx H)(i:Nat)(T:List (Option Nat)):zm (Dof Tryz.prog) ⟨H,T⟩ 106 m (.int .i64 (i:Int)) true=some (match fx i with | none=>.tup [.int .i64 0,.bool false] | some x=>.tup [.int .i64 (x:Int),.bool true]):=by
 rcases h with ⟨rfl,h⟩|⟨F,es,n,rfl,hF,h⟩
 . rw[h i];simp[zm,zw,jy,WF]
 . have:=h i
   cases hx:fx i with
   | none=>rw[hx]at this;simp[zm,zw,hF,this,WF]
   | some x=>
    rw[hx]at this;obtain⟨j,hj⟩:=this;simp[zm,zw,hF,hj,WF]
def zE (n:Nat):List AV:=[.int .i64 (n:Int)]
def qjw (r:AV)(vals:List Nat)(H:List Blk)(n:Nat):Prop:=r=.sl 1 (vals.map zE) .tight\/∃ N,r=.ms N 0 vals.length 1/\n<=N/\H[N]?=some (.cells (qp vals))
def kR (w:Nat)(o:Option Nat):List Nat:=match o with
 | none=>List.range (2 ^ w)
 | some x=>[x]
def ValQ (vals:List Nat)(H:List Blk)(r:AV)(U':St):Prop:=KpL [] H U'.H/\qjw r vals U'.H H.length
theorem qah {s:Spc}{H:List Blk}(h:SpOk s H){m:AV}{fx:Nat->Option Nat}(hf:qgo m fx H){i:Nat}{v:Var}(hv:s.p.vars[i]?=some v)(hw:0<=v.width/\v.width<=8)(T:List (Option Nat)) :
 qf Tryz.prog GG 168 [.ptr s.S 0,.int .i64 i,m] ⟨H,T⟩ (ValQ (kR v.width.toNat (fx i)) H):=by
 refine qf.k qe Tryz.func168 rfl (by kernel_rfl) ?_;have hS:=h.c;have hil:=(qqc.1 hv).1;have hlk:=hf.look i T;simp only[spE,qE,qqz,qqw]at hS
 cases hfx:fx i with
 | some x=>
  rw[hfx]at hlk;have hq:ValQ (kR v.width.toNat (some x)) H (.sl 1 [[.int .i64 (x:Int)]] .tight) ⟨H,T⟩:=⟨KpL.refl,.inl rfl⟩;simp[-getElem?_pos,hlk,qk,qu];exact hq
 | none=>
  rw[hfx]at hlk;have hs1:=Qp hw.1 (by omega);have hwn:¬ v.width<0:=by omega
  have hp8:2 ^ v.width.toNat<=2 ^ 8:=qqJ (by omega) (by omega);have hp0:0<2 ^ v.width.toNat:=qsx _;have hvs:kR v.width.toNat none=List.range (2 ^ v.width.toNat):=rfl;rw[hvs];obtain⟨N,hN⟩:∃ N,N=2 ^ v.width.toNat:=⟨_,rfl⟩;rw[<- hN]at hs1 hp8 hp0 ⊢;have hN0:¬ (N:Int)=0:=by omega
  have hN0':N≠0:=by omega
  have hN1:(N:Int)<=549755813888:=by omega
  simp[-getElem?_pos,hlk,hS,hv,hil,hwn,IntKind.bits,hs1,qx,hN0,hN0',hN1];have hz:List.replicate N (AV.int .i64 0)=qp (List.replicate N 0):=by simp[qp]
  rw[hz];refine yE N (fun k ev U=>ev 9=.ms H.length 0 N 1/\ev 32=.int .i64 (N:Int)/\ev 33=.int .i64 (k:Int)/\KpL [] H U.H/\∃ W,W.length=N/\U.H[H.length]?=some (.cells (qp W))/\∀ j,j<k->W[j]?=some j) ?_ ?_ ?_
  . exact⟨by simp,by simp,by simp,KpL.app,List.replicate N 0,by simp,lk0,fun j hj=>absurd hj (by omega)⟩
  . rintro k ev ⟨H1,T1⟩ R hR hk ⟨e9,e32,e33,hkp,W,hWl,bW,hWj⟩;dsimp only at hkp bW;have hk':(k:Int)<N:=(by omega);have hk1:k+1<=N:=hk;have hwk:=wr (n:=(k:Int)+1) (by omega) (by omega);have hl1:=(qqc.1 bW).1;simp[-getElem?_pos,e9,e32,e33,hk',hk1,bW,hWl,yS,hwk];refine hR _ _ ⟨by simp[e9],by simp[e32],by simp,hkp.setF (qqn _),W.set k k,by simp[hWl],qqh hl1,fun j hj=>?_⟩;by_cases hjk:j=k
    . subst hjk;rw[qqh (by omega)]
    . rw[qqf (Ne.symm hjk)];exact hWj j (by omega)
  . rintro ev ⟨H1,T1⟩ ⟨e9,e32,e33,hkp,W,hWl,bW,hWj⟩;dsimp only at hkp bW;have hWr:W=List.range N:=by
     apply qq3;intro j;by_cases hj:j<N
     . rw[hWj j hj,qsL hj]
     . rw[qqC (by omega),qqC (by simp;omega)]
    rw[hWr]at bW;simp[-getElem?_pos,e9,e32,e33];exact⟨hkp,.inr ⟨H.length,by simp,qqn _,bW⟩⟩
def z0 (p:Problem)(i:Nat):Nat:=(zF p.vars i).toNat
def Zs (lv:List Int)(i:Nat):Nat:=(lv.getD i 0).toNat
def wtP (p:Problem)(i v:Nat):Nat:=wtO ((jf p.vars.length p.dists).getD i none) (v:Int)
theorem qdo (p:Problem)(i v:Nat):wtP p i v<=lim:=wtO_le _ _
def VZ (p:Problem)(lv:List Int)(d:List Nd)(fx:Nat->Option Nat):List Nat->Nat->Nat
 | [],node=>if node=0 then 0 else 1
 | i::r,node=>if node=0 then 0 else (kR (z0 p i) (fx i)).foldl (fun s v=>sat (s+sat (wtP p i v*VZ p lv d fx r (wM d (Zs lv i) (z0 p i) v node (z0 p i))))) 0
theorem yt {α:Type}(f:α->Nat):∀ (l:List α) (s:Nat),s<=lim->l.foldl (fun s v=>sat (s+f v)) s<=lim
 | [],s,h=>h
 | a::r,s,h=>yt f r _ (Yf _)
theorem qgX (p:Problem)(lv:List Int)(d:List Nd)(fx:Nat->Option Nat)(g:List Nat)(node:Nat):VZ p lv d fx g node<=lim:=by
 cases g with
 | nil=>unfold VZ lim;split<;>omega
 | cons i r=>
  unfold VZ;split
  . exact qrS _
  . exact yt _ _ _ (qrS _)
abbrev Pt:=(Nat×Nat)×Nat×Nat
def ptE (q:Pt):AV×AV×Nat:=(.agg [.int .i64 (q.1.1:Int),.int .i64 (q.1.2:Int)],.int .i64 (q.2.1:Int),q.2.2)
theorem qcw {x:Nat×Nat}:∀ (E:List Pt) (k:Nat),(jy (.agg [.int .i64 (x.1:Int),.int .i64 (x.2:Int)]) (E.map ptE) k=some none/\∀ q∈E,q.1≠x)\/∃ j q,E[j]?=some q/\q.1=x/\jy (.agg [.int .i64 (x.1:Int),.int .i64 (x.2:Int)]) (E.map ptE) k=some (some (k+j,.int .i64 (q.2.1:Int)))
 | [],k=>.inl ⟨rfl,by simp⟩
 | e::E,k=>by
  have hk:Qe (.agg [.int .i64 (x.1:Int),.int .i64 (x.2:Int)]) (.agg [.int .i64 (e.1.1:Int),.int .i64 (e.1.2:Int)])=some (decide (x=e.1)):=by
   obtain⟨a,b⟩:=x;obtain⟨⟨c,d⟩,r⟩:=e;simp only[Qe,zX,ka,if_true];congr 1;rw[qq4];simp;omega
  by_cases h:x=e.1
  . right;have hd:decide (x=e.1)=true:=(by simpa using h);rw[hd]at hk;exact⟨0,e,rfl,h.symm,by simp[jy,ptE,hk]⟩
  . have hd:decide (x=e.1)=false:=(by simpa using h);rw[hd]at hk;rcases qcw (x:=x) E (k+1) with ⟨h1,h2⟩|⟨j,q,h1,h2,h3⟩
    . left;refine⟨by simp only[qqp,ptE,jy,hk];exact h1,fun q hq=>?_⟩;rcases qqE.1 hq with rfl|hq
      . exact fun e=>h e.symm
      . exact h2 q hq
    . right;refine⟨j+1,q,by simpa using h1,h2,?_⟩;simp only[qqp,ptE,jy,hk];have:k+(j+1)=k+1+j:=by omega
      rw[this];exact h3
theorem fit_pt (a b:Int):zw (Dof Tryz.prog) 161 (.agg [.int .i64 a,.int .i64 b])=true:=by
 simp[zw,YX,yM,qU,zR,qrG]
def qjz (p:Problem)(lv:List Int)(d:List Nd)(fx:Nat->Option Nat)(g:List Nat)(K:Nat)(H:List Blk):Prop:=∃ (E:List Pt) (n:Nat),H[K]?=some (.map (E.map ptE) n)/\∀ q∈E,q.2.1=VZ p lv d fx (g.drop q.1.1) q.1.2
theorem qjw.len {r:AV}{vals:List Nat}{H:List Blk}{n:Nat}(h:qjw r vals H n)(U:St):JG (Dof Tryz.prog) U 28 r=some (.int .i64 (vals.length:Nat)):=by
 rcases h with rfl|⟨N,rfl,_⟩<;>simp
theorem qjw.at {r:AV}{vals:List Nat}{H:List Blk}{n:Nat}(h:qjw r vals H n){j x:Nat}(hj:vals[j]?=some x):∃ a,zs (Dof Tryz.prog) 28 r (.int .i64 (j:Int))=some a/\∀ T,yR (Dof Tryz.prog) ⟨H,T⟩ 3 a=some (.int .i64 (x:Int)):=by
 have hl:=(qqc.1 hj).1;rcases h with rfl|⟨N,rfl,_,hN⟩
 . exact⟨.rptr [.int .i64 (x:Int)],by simp[-getElem?_pos,hj,zE],fun T=>by simp⟩
 . have hl':(j:Int)<vals.length:=(by omega);have hl1:j+1<=vals.length:=hl;exact⟨.ptr N j,by simp[hl'],fun T=>by simp[-getElem?_pos,hN,hl1,zO hj]⟩
theorem qjw.keep {r:AV}{vals:List Nat}{H H':List Blk}{n K:Nat}(h:qjw r vals H n)(hk:KpL [K] H H')(hK:K<n):qjw r vals H' n:=by
 rcases h with h|⟨N,h1,h2,h3⟩
 . exact .inl h
 . exact .inr ⟨N,h1,h2,hk.2 _ _ h3 (by simp;omega)⟩
def qmB (s:Spc)(g:List Nat):Prop:=∀ i∈g,∃ (v:Var) (l:Nat),s.p.vars[i]?=some v/\0<=v.width/\v.width<=8/\s.lv[i]?=some (l:Int)/\l<=20/\∀ w,(jf s.p.vars.length s.p.dists)[i]?=some (some w)->w≠[]/\w.length<=1000
def SumQ (s:Spc)(d:List Nd)(fx:Nat->Option Nat)(g:List Nat)(K at_ node:Nat)(H:List Blk)(r:AV)(U':St):Prop :=
 r=.int .i64 (VZ s.p s.lv d fx (g.drop at_) node:Nat)/\KpL [K] H U'.H/\qjz s.p s.lv d fx g K U'.H
def qd1:List (Nat×Sch×List Nat):=[(13,.step 0 [15,14] (.step 1 [15,14] (.step 2 [15,14] (.step 3 [15,14] (.step 4 [15,14,13,6,5] (.step 7 [15,14,13,12] (.step 8 [15,14,13,12,9] (.step 9 [15,14,13,12] (.step 10 [15,14,13,12] (.step 11 [15,14,13,12] (.fork (.cons 5 (.step 6 [15,14,13] (.step 12 [15,14,13] (.step 13 [15,14] (.step 14 [15] (.step 15 [] (.done)))))) (.cons 12 (.step 5 [15,14,13,6] (.step 6 [15,14,13] (.step 13 [15,14] (.step 14 [15] (.step 15 [] (.done)))))) (.nil))))))))))))),[12,14])]
theorem qgS {s:Spc}{d:List Nd}{tok:Tok}(hd:DagOk d)(hdv:s.dv=.sl 3 (d.map qw) tok){fx:Nat->Option Nat}(hfx:∀ i x,fx i=some x->x<65536){m:AV}{g:List Nat}(hg:qmB s g)(hgl:g.length<=1000){K:Nat}(hSK:s.S≠K)(hLK:s.L≠K)(hLLK:s.LL≠K)(hmK:∀ F,m=.map F->F≠K) :
 ∀ (k at_:Nat),at_+k=g.length->∀ (node:Nat) (H:List Blk) (T:List (Option Nat)),node<d.length->SpOk s H->qgo m fx H->qjz s.p s.lv d fx g K H ->
  qf Tryz.prog GG 109 [.ptr s.S 0,.sl 1 (g.map zE) .none,m,.map K,.agg [.int .i64 at_,.int .i64 node]] ⟨H,T⟩ (SumQ s d fx g K at_ node H):=by
 intro k
 induction k with
 | zero=>
  intro at_ hat node H T hn hs hf hmem;refine qf.kO ⟨false,qd1,[],[]⟩ qe Tryz.func109 rfl (by kernel_rfl) ?_;have hd0:g.drop at_=[]:=qqO (by omega);have hat':(at_:Int)=g.length:=by omega
  obtain⟨E,n,hE,hEv⟩:=hmem;have fin:∀ u,SumQ s d fx g K at_ node H (.int .i64 (if node=0 then 0 else 1:Nat)) ⟨H++u,T⟩:=fun u=>⟨by rw[hd0];rfl,KpL.app,E,n,qa hE _,hEv⟩
  by_cases hn0:node=0
  . subst hn0;simp[-getElem?_pos];exact fin _
  . have hn0':¬ (node:Int)=0:=(by omega);rw[if_neg hn0]at fin;simp[-getElem?_pos,hn0,hat'];exact fin _
 | succ k ih=>
  intro at_ hat node H T hn hs hf hmem;refine qf.kO ⟨false,qd1,[],[]⟩ qe Tryz.func109 rfl (by kernel_rfl) ?_;have hal:at_<g.length:=by omega
  obtain⟨i,hi⟩:∃ i,g[at_]?=some i:=⟨_,qqe hal⟩;obtain⟨v,l,hv,hw0,hw8,hl,hl20,hwn⟩:=hg i (qqd hi);have hdr:g.drop at_=i::g.drop (at_+1):=by
   obtain⟨h1,h2⟩:=qqc.1 hi;rw[qqu h1,h2]
  have hat':¬ (at_:Int)=g.length:=by omega
  have hat2:(at_:Int)<g.length:=by omega
  obtain⟨E,n,hE,hEv⟩:=hmem;have hKl:=(qqc.1 hE).1;by_cases hn0:node=0
  . subst hn0;have fin:∀ u,SumQ s d fx g K at_ 0 H (.int .i64 0) ⟨H++u,T⟩:=fun u=>⟨by rw[hdr];rfl,KpL.app,E,n,qa hE _,hEv⟩
    simp[-getElem?_pos];exact fin _
  have hn0':¬ (node:Int)=0:=by omega
  have hfit:=fit_pt at_ node;rcases qcw (x:=(at_,node)) E 0 with ⟨hfind,hno⟩|⟨j,q,hj1,hj2,hfind⟩
  case inr=>
   have hqv:=hEv q (qqd hj1);rw[hj2]at hqv;have fin:∀ u,SumQ s d fx g K at_ node H (.int .i64 (q.2.1:Nat)) ⟨H++u,T⟩:=fun u=>⟨by rw[hqv],KpL.app,E,n,qa hE _,hEv⟩
   have hlk:∀ (u:List Blk) (T:List (Option Nat)),zm (Dof Tryz.prog) ⟨H++u,T⟩ 159 (.map K) (.agg [.int .i64 at_,.int .i64 node]) true=some (.tup [.int .i64 (q.2.1:Int),.bool true]):=fun u T=>by
    simp only[zm,D159,hfit,if_true];simp[qa hE,hfind]
   simp[-getElem?_pos,hn0,hat',hlk];exact fin _
  have hlk:∀ (u:List Blk) (T:List (Option Nat)),zm (Dof Tryz.prog) ⟨H++u,T⟩ 159 (.map K) (.agg [.int .i64 at_,.int .i64 node]) true=some (.tup [.int .i64 0,.bool false]):=fun u T=>by
   simp only[zm,D159,hfit,if_true];simp[qa hE,hfind,WF]
  clear hfind hno;have hs0:=hs.keep (H':=H++[.cells [.int .i64 at_,.int .i64 node]]) (bs:=[]) KpL.app (by simp) (by simp) (by simp);have hf0:=hf.keep (H':=H++[.cells [.int .i64 at_,.int .i64 node]]) (bs:=[]) KpL.app (by simp);have hval:=qah hs0 hf0 hv ⟨hw0,hw8⟩ T;obtain⟨vals,hvals⟩:∃ vals,vals=kR v.width.toNat (fx i):=⟨_,rfl⟩;rw[<- hvals]at hval;have hwid:z0 s.p i=v.width.toNat:=by simp[z0,zF,hv]
  have hlvl:Zs s.lv i=l:=by simp[Zs,qqm,hl]
  have hvb:∀ x∈vals,x<65536:=fun x hx=>by
   rw[hvals]at hx
   cases hfi:fx i with
   | none=>
    rw[hfi]at hx;have:=qri.1 hx;have:2 ^ v.width.toNat<=2 ^ 8:=qqJ (by omega) (by omega);omega
   | some y=>
    rw[hfi]at hx;have:x=y:=by simpa[kR] using hx
    rw[this];exact hfx i y hfi
  have hvl:vals.length<=256:=by
   rw[hvals]
   cases hfi:fx i with
   | none=>simp only[kR,qtn];exact qq6 (qqJ (by omega) (show v.width.toNat<=8 by omega)) (by decide)
   | some y=>simp[kR]
  have hsum:VZ s.p s.lv d fx (g.drop at_) node=vals.foldl (fun a x=>sat (a+sat (wtP s.p i x*VZ s.p s.lv d fx (g.drop (at_+1)) (wM d l v.width.toNat x node v.width.toNat)))) 0:=by
   rw[hdr,hvals];simp only[VZ,if_neg hn0,hwid,hlvl]
  obtain⟨f,hff⟩:∃ f:Nat->Nat,∀ x,f x=sat (wtP s.p i x*VZ s.p s.lv d fx (g.drop (at_+1)) (wM d l v.width.toNat x node v.width.toNat)):=⟨_,fun _=>rfl⟩;have hfle:∀ x,f x<=lim:=fun x=>by rw[hff];exact Yf _
  simp only[<- hff]at hsum;simp[-getElem?_pos,hn0,hat',hlk,hi,zE];refine qc.acall hval ?_;rintro r ⟨H1,T1⟩ ⟨hk1,hrow⟩;dsimp only at hk1 hrow;have bX:H1[H.length]?=some (.cells [.int .i64 at_,.int .i64 node]):=hk1.2 _ _ lk0 (by simp);have hlen:=hrow.len;have hrow:qjw r vals H1 H.length:=hrow.imp id fun ⟨N,h1,h2,h3⟩=>⟨N,h1,by simp at h2;omega,h3⟩
  have hkH1:KpL [K] H H1:=(KpL.app.trans hk1).sub (by simp);have hmem1:qjz s.p s.lv d fx g K H1:=⟨E,n,hk1.2 _ _ (qa hE _) (by simp),hEv⟩;simp[-getElem?_pos,-JG,hlen];refine qX.listR vals (fun dn ev U=>ev 0=.ptr s.S 0/\ev 1=.sl 1 (g.map zE) .none/\ev 2=m/\ev 3=.map K/\ev 9=.ptr H.length 0/\ev 13=.int .i64 (dn.foldl (fun a x=>sat (a+f x)) 0:Nat)/\ev 14=.int .i64 (i:Int)/\ev 44=r/\ev 45=.int .i64 vals.length/\ev 46=.int .i64 dn.length/\KpL [K] H U.H/\qjz s.p s.lv d fx g K U.H/\qjw r vals U.H H.length/\U.H[H.length]?=some (.cells [.int .i64 at_,.int .i64 node])) ?_ ?_ ?_
  . exact⟨by simp,by simp,by simp,by simp,by simp,by simp,by simp,by simp,by simp,by simp,hkH1,hmem1,hrow,bX⟩
  . rintro dn x rest ev ⟨H2,T2⟩ R hR hdl hx hlt ⟨e0,e1,e2,e3,e9,e13,e14,e44,e45,e46,hkp,hme,hro,bX2⟩;dsimp only at hkp hme hro bX2;obtain⟨a,ha1,ha2⟩:=hro.at hx;have hdw:=wr (n:=(dn.length:Int)+1) (by omega) (by omega);have hlt':(dn.length:Int)<vals.length:=(by omega);have hxb:=hvb x (qqd hx);have hs2:=hs.keep hkp (by simpa using hSK) (by simpa using hLK) (by simpa using hLLK);have hf2:=hf.keep hkp (fun F hF=>by simpa using hmK F hF);have hatw:=wr (n:=(at_:Int)+1) (by omega) (by omega);have hdes:=Wx hs2 hd hdv hv hl ⟨hw0,hw8⟩ hl20 hn (val:=x) (by omega) T2;have hnl:=JO hd hn l v.width.toNat x v.width.toNat;have hffx:=hff x;have hfx1:=hfle x;generalize hnd:wM d l v.width.toNat x node v.width.toNat=nd at *;simp[-getElem?_pos,-zs,-yR,e44,e45,e46,hlt',ha1,ha2];rw[qG rfl];simp[-getElem?_pos,qN,e0,e1,e2,e3,e9,e14,bX2,hatw];refine⟨qc.acall hdes ?_,qc.acall hdes ?_⟩
    all_goals
     rintro w ⟨H3,T3⟩ ⟨rfl,hk3⟩;dsimp only at hk3;have hk3':KpL [K] H2 H3:=hk3.sub (by simp);have bX3:=hk3.2 _ _ bX2 (by simp);have hs3:=hs2.keep hk3' (by simpa using hSK) (by simpa using hLK) (by simpa using hLLK);have hf3:=hf2.keep hk3' (fun F hF=>by simpa using hmK F hF);have hme3:qjz s.p s.lv d fx g K H3:=by
      obtain⟨E3,n3,h1,h2⟩:=hme;exact⟨E3,n3,hk3.2 _ _ h1 (by simp),h2⟩
     have hih:=ih (at_+1) (by omega) nd H3 T3 hnl hs3 hf3 hme3;simp only[qtE,qtF]at hih;simp[-getElem?_pos,qN,bX3,hatw,zn,zS,qF];refine qc.acall hih ?_;rintro w ⟨H4,T4⟩ ⟨rfl,hk4,hme4⟩;dsimp only at hk4 hme4;have hs4:=hs3.keep hk4 (by simpa using hSK) (by simpa using hLK) (by simpa using hLLK);have bX4:=hk4.2 _ _ bX3 (by simp;omega);have hS4:=hs4.c;simp only[spE,qE,qqz,qqw]at hS4;obtain⟨o,ho⟩:∃ o,(jf s.p.vars.length s.p.dists)[i]?=some o:=⟨_,qqe (by rw[yr];exact (qqc.1 hv).1)⟩;have hwt:wtP s.p i x=wtO o (x:Int):=(by simp[wtP,qqm,ho]);have hweigh:=WH s.p hs4.w ho (fun w hw=>hwn w (by rw[ho,hw])) (x:Int) T4;rw[<- hwt]at hweigh;have hwle:=qdo s.p i x;have hsle:=qgX s.p s.lv d fx (g.drop (at_+1)) nd;generalize VZ s.p s.lv d fx (g.drop (at_+1)) nd=sd at *;generalize wtP s.p i x=wx at *;have hacc:dn.foldl (fun a x=>sat (a+f x)) 0<=lim:=yt f dn 0 (qrS _);have hsnoc:(dn++[x]).foldl (fun a x=>sat (a+f x)) 0=sat (dn.foldl (fun a x=>sat (a+f x)) 0+f x):=(by rw[qrp];rfl);generalize dn.foldl (fun a x=>sat (a+f x)) 0=acc at *;have ht:=WS wx sd hwle hsle;rw[<- hffx]at ht;have hp:=qhp acc (f x) hacc hfx1;simp[-getElem?_pos,qN,e0,e13,e14,hS4];refine qc.acall hweigh ?_;rintro w U ⟨rfl,rfl⟩;simp[-getElem?_pos];refine qc.call ht (by simp) ?_;simp[-getElem?_pos];refine qc.call hp (by simp) ?_;simp[-getElem?_pos,e46,hdw];exact hR _ _ ⟨by simp[e0],by simp[e1],by simp[e2],by simp[e3],by simp[e9],by simp[hsnoc],by simp[e14],by simp[e44],by simp[e45],by simp,(hkp.trans hk3').trans hk4,hme4,(hro.keep hk3' hKl).keep hk4 hKl,bX4⟩
  . rintro ev ⟨H2,T2⟩ ⟨e0,e1,e2,e3,e9,e13,e14,e44,e45,e46,hkp,hme,hro,bX2⟩;dsimp only at hkp hme hro bX2;rw[<- hsum]at e13;obtain⟨E2,n2,hE2,hEv2⟩:=hme;have hK2:=(qqc.1 hE2).1;generalize hsd:VZ s.p s.lv d fx (g.drop at_) node=sd at *;obtain⟨E3,n3,hup,hEv3⟩:∃ (E3:List Pt) (n3:Nat),qZ (Dof Tryz.prog) ⟨H2,T2⟩ 159 (.map K) (.agg [.int .i64 at_,.int .i64 node]) (.int .i64 (sd:Nat))=some ⟨H2.set K (.map (E3.map ptE) n3),T2⟩/\∀ q∈E3,q.2.1=VZ s.p s.lv d fx (g.drop q.1.1) q.1.2:=by
     rcases qcw (x:=(at_,node)) E2 0 with ⟨hfind,_⟩|⟨j,q,hj1,hj2,hfind⟩
     . refine⟨E2++[((at_,node),sd,n2)],n2+1,?_,fun q hq=>?_⟩
       . simp only[qZ,D159,hfit,if_true];simp[hE2,hfind,ptE]
       . rcases qqA.1 hq with hq|hq
         . exact hEv2 q hq
         . rw[qqQ]at hq;rw[hq];exact hsd.symm
     . refine⟨E2.modify j fun q=>((at_,node),sd,q.2.2),n2,?_,fun q hq=>?_⟩
       . simp only[qZ,D159,hfit,if_true];simp[hE2,hfind];congr 2;apply qq3;intro k;simp only[qrU,qqB];by_cases hkj:j=k
         . subst hkj;cases E2[j]?<;>simp[ptE]
         . cases E2[k]?<;>simp[hkj]
       . obtain⟨k,hk⟩:=qqN hq;rw[qrU]at hk;by_cases hkj:j=k
         . subst hkj;rw[hj1]at hk;simp at hk;rw[<- hk];exact hsd.symm
         . cases he:E2[k]? with
           | none=>rw[he]at hk;simp at hk
           | some y=>
            rw[he]at hk;simp[hkj]at hk;rw[<- hk];exact hEv2 y (qqd he)
    simp[-getElem?_pos,e3,e9,e13,e45,e46,bX2,hup];exact⟨by rw[hsd],hkp.trans (KpL.set (by simp)),E3,n3,qqh hK2,hEv3⟩
def eqE (s:Str)(n:Int):Ex:=.mk 15 0 [] [w9 s,jP n]
theorem qcy (s:Str)(n:Int):pre (eqE s n)=[eqE s n,w9 s,jP n]:=by
 rw[jr];show eqE s n::kx [w9 s,jP n]=_;rw[yb,qdV,yb,QT];rfl
theorem qnq {s:Str}(hs:yX s=true){n:Int}(h0:0<=n)(h1:n<=65535):EOk s 2 3 (eqE s n):=by
 refine⟨fun x hx=>?_,?_,by rw[qcy];simp⟩
 . rw[qcy]at hx;simp only[qqE,qrA,or_false]at hx;rcases hx with rfl|rfl|rfl
   . exact⟨by simp[qo,eqE,qi,zo,Ex.op,Ex.n,Ex.name,Ex.args],by simp[eqE,Ex.op],by simp[eqE,Ex.op],by simp[eqE,Ex.op]⟩
   . exact⟨qgE hs,by simp[w9,Ex.op],by simp[w9,Ex.op],fun _=>rfl⟩
   . exact⟨Va h0 h1,by simp[jP,Ex.op],by simp[jP,Ex.op],by simp[jP,Ex.op]⟩
 . rw[kD];simp[eqE,w9,jP,kD]
theorem qeG {p:Problem}(h:VQ p)(hv:qj p=0){i:Nat}{v:Var}(hi:p.vars[i]?=some v){n:Int}(h0:0<=n)(h1:n<=65535):zi p.vars (eqE v.name n)=0/\JT (eqE v.name n):=by
 have hm:=qqd hi;have hve:=zd (jl hv v hm);have ho:=qnq hve.1 h0 h1;exact⟨ho.valid (by omega) (by omega) (by unfold vH;rw[qqF];exact⟨v,hm,by simp⟩),ho.tame (h.names v hm) (by omega) (by omega)⟩
theorem qby {s:Spc}{H:List Blk}(h:SpOk s H){i:Nat}{v:Var}(hv:s.p.vars[i]?=some v)(n:Int)(T:List (Option Nat)) :
 qf Tryz.prog GG 111 [.ptr s.S 0,.int .i64 i,.int .i64 n] ⟨H,T⟩ (fun r U'=>r=.agg (qr (eqE v.name n))/\KpL [] H U'.H):=by
 refine qf.up (qf.k qe Tryz.func111 rfl (by kernel_rfl) ?_);have hS:=h.c;have hil:=(qqc.1 hv).1;simp only[spE,qE,qqz,qqw]at hS;simp[-getElem?_pos,qa hS,hS,hv,hil,zn,zS,qF,qk,qu];refine⟨_,?_,rfl,KpL.app⟩;simp[eqE,qd,w9,jP,Leq,zu,j7]
theorem qiY (R:List Ex)(tok:Tok)(h:R≠[]\/tok.known=true):Pure Tryz.prog GG 110 [.sl 4 (R.map qr) tok] (.sl 4 (R.map qr) .tight):=by
 refine Pure.kO o0 true qe Tryz.func110 rfl (by kernel_rfl) ?_;have hs:=qh2 (en:=qr) (sz:=4) (R:=R) (tok:=tok) (n:=(R.length:Int)) rfl h;simp[-getElem?_pos,hs];rw[qI (by simp)];exact⟨by simp,Leq.refl _⟩
def V4 (vs:List Var):List (Str×AV×Nat):=vs.zipIdx.map fun q=>(q.1.name,.bool true,q.2)
theorem qhH {vs:List Var}{i:Nat}{v:Var}(hv:vs[i]?=some v):V4 (vs.take (i+1))=V4 (vs.take i)++[(v.name,.bool true,i)]:=by
 have hl:=(qqc.1 hv).1;unfold V4;rw[qqH,hv];simp[qsV,qrF (qtU hl)]
theorem qhI {vs:List Var}{j:Nat}{q:Str×AV×Nat}(h:(V4 vs)[j]?=some q):∃ v,vs[j]?=some v/\q=(v.name,.bool true,j):=by
 unfold V4 at h;rw[qqB,qsn]at h
 cases hv:vs[j]? with
 | none=>rw[hv]at h;simp at h
 | some v=>rw[hv]at h;simp at h;exact⟨v,rfl,h.symm⟩
theorem qoQ {vs:List Var}(hn:(vs.map (·.name)).Nodup){i:Nat}{v:Var}(hv:vs[i]?=some v)(k:Nat):jy (.str v.name) ((V4 (vs.take i)).map Z0) k=some none:=by
 have hl:=(qqc.1 hv).1;rcases QI (s:=v.name) (V4 (vs.take i)) k with ⟨h1,_⟩|⟨j,q,h1,h2,_⟩
 . exact h1
 . exfalso;obtain⟨w,hw,rfl⟩:=qhI h1;rw[qq2]at hw;split at hw
   . rename_i hj;obtain⟨hj1,hj2⟩:=qqc.1 hw;obtain⟨_,hi2⟩:=qqc.1 hv;have hp:=qr6.1 hn;have h2:w.name=v.name:=h2;exact hp j i (by simpa using hj1) (by simpa using hl) hj (by rw[qrB,qrB,hj2,hi2,h2])
   . cases hw
theorem qoP {vs:List Var}{v:Var}(hv:v∈vs)(k:Nat):∃ j,jy (.str v.name) ((V4 vs).map Z0) k=some (some (j,.bool true)):=by
 rcases QI (s:=v.name) (V4 vs) k with ⟨_,h2⟩|⟨j,q,h1,h2,h3⟩
 . exfalso;obtain⟨i,hi⟩:=qqN hv;have hm:(v.name,AV.bool true,i)∈V4 vs:=qqG.2 ⟨(v,i),qqd (i:=i) (by rw[qsn,hi];simp),rfl⟩;exact h2 _ hm rfl
 . obtain⟨w,_,rfl⟩:=qhI h1;exact⟨k+j,h3⟩
theorem YJ {vs:List Var}{e:Ex}(hk:zi vs e=0)(ht:JT e):zf e=0/\zD [3,24] e=[]/\(∀ s∈zD [2] e,∃ v∈vs,v.name=s)/\(zD [2] e).length<=100000:=by
 have he:zf e=0/\Jf e=false/\Qw vs e=false:=by
  unfold zi at hk;split at hk
  . rename_i h;exact absurd hk h
  . rename_i h;split at hk
    . cases hk
    . split at hk
      . cases hk
      . rename_i h2 h3;exact⟨qqY.1 h,by simpa using h2,by simpa using h3⟩
 refine⟨he.1,?_,fun s hs=>?_,YF ht.2.2⟩
 . have:=Qa (e:=e);rw[he.2.1]at this
   cases hl:zD [3,24] e with
   | nil=>rfl
   | cons a r=>rw[hl]at this;simp at this
 . have:=vW (l:=vs) (e:=e);rw[he.2.2,qrD]at this;have h1:=this s hs;simp only[qrv,Bool.not_eq_false,vH,qqF]at h1;obtain⟨v,hv,hvn⟩:=h1;exact⟨v,hv,by simpa using hvn⟩
theorem qmb (p:Problem)(h:VQ p)(hv:qj p=0)(l:List Ex)(hf:l.length<=1000000)(hx:∀ e∈l,zi p.vars e=0/\JT e):Pure Tryz.prog GG 222 [.agg (qE p),.sl 4 (l.map qr) .none] (.int .i64 0):=by
 refine Pure.k qe Tryz.func222 rfl (by kernel_rfl) ?_;have hval:=yv p h;rw[hv]at hval;have hnd:=yY hv;have hvl:=h.vars;simp only[qE]at hval;simp[-getElem?_pos];refine qc.call hval (by simp) ?_;simp[-getElem?_pos];refine qX.listR l (fun d ev U=>ev 1=.sl 4 (l.map qr) .none/\ev 2=.ptr 0 0/\ev 17=.sl 4 (l.map qr) .none/\ev 18=.int .i64 l.length/\ev 19=.int .i64 d.length/\∃ u T,U=⟨.cells (qE p)::u,T⟩) ?_ ?_ ?_
 . exact⟨by simp,by simp,by simp,by simp,by simp,_,_,rfl⟩
 . rintro d e rest ev U R hR hd hxe hlt ⟨e1,e2,e17,e18,e19,u,T,rfl⟩;have hdw:=wr (n:=(d.length:Int)+1) (by omega) (by omega);have hlt':(d.length:Int)<l.length:=(by omega);obtain⟨hk,ht⟩:=hx e (qqd hxe);have hev:=J2 e ht.1 (by have:=ht.2.1;omega);rw[(YJ hk ht).1]at hev;have henc:=qd e;rw[henc]at hev;simp[-getElem?_pos,e17,e18,e19,hlt',hxe,henc];refine qc.call hev (by simp) ?_;simp[-getElem?_pos,e19,hdw];exact hR _ _ ⟨by simp[e1],by simp[e2],by simp[e17],by simp[e18],by simp,_,_,rfl⟩
 . rintro ev U ⟨e1,e2,e17,e18,e19,u,T,rfl⟩;simp[-getElem?_pos,e2,e18,e19];refine qX.listR p.vars (fun d ev U=>ev 1=.sl 4 (l.map qr) .none/\ev 7=.map (u.length+1)/\ev 29=.sl 4 (p.vars.map qA) .none/\ev 30=.int .i64 p.vars.length/\ev 31=.int .i64 d.length/\U.H[u.length+1]?=some (.map ((V4 (p.vars.take d.length)).map Z0) d.length)) ?_ ?_ ?_
   . exact⟨by simp[e1],by simp,by simp,by simp,by simp,by simp[V4]⟩
   . rintro d v rest ev ⟨H1,T1⟩ R hR hd hxv hlt ⟨e1,e7,e29,e30,e31,bM⟩;dsimp only at bM;have hdw:=wr (n:=(d.length:Int)+1) (by omega) (by omega);have hlt':(d.length:Int)<p.vars.length:=(by omega);have hfn:=qoQ hnd hxv 0;have ht1:=qhH hxv;have hMl:=(qqc.1 bM).1;have hup:∀ (w:List Blk) (T:List (Option Nat)),qZ (Dof Tryz.prog) ⟨H1++w,T⟩ 309 (.map (u.length+1)) (.str v.name) (.bool true)=some ⟨H1.set (u.length+1) (.map ((V4 (p.vars.take (d.length+1))).map Z0) (d.length+1))++w,T⟩:=fun w T=>by
      rw[ht1,qrb];generalize (V4 (p.vars.take d.length)).map Z0=E at *;simp[qZ,qa bM,zw,hfn,yQ bM,Z0]
     generalize hE2:(V4 (p.vars.take (d.length+1))).map Z0=E2 at *;simp[-getElem?_pos,e7,e29,e30,e31,hlt',hxv,hup,hdw];refine hR _ _ ⟨by simp[e1],by simp[e7],by simp[e29],by simp[e30],by simp,?_⟩;rw[qqg,qqK,hE2];exact qa (qqh hMl) _
   . rintro ev ⟨H1,T1⟩ ⟨e1,e7,e29,e30,e31,bM⟩;dsimp only at bM;rw[qsf]at bM;simp[-getElem?_pos,e1,e30,e31];refine qX.listR l (fun d ev U=>ev 7=.map (u.length+1)/\ev 39=.sl 4 (l.map qr) .none/\ev 40=.int .i64 l.length/\ev 41=.int .i64 d.length/\U.H[u.length+1]?=some (.map ((V4 p.vars).map Z0) p.vars.length)) ?_ ?_ ?_
     . exact⟨by simp[e7],by simp,by simp,by simp,bM⟩
     . rintro d e rest ev ⟨H2,T2⟩ R hR hd hxe hlt ⟨e7,e39,e40,e41,bM⟩;dsimp only at bM;have hdw:=wr (n:=(d.length:Int)+1) (by omega) (by omega);have hlt':(d.length:Int)<l.length:=(by omega);obtain⟨hk,ht⟩:=hx e (qqd hxe);obtain⟨_,h0,hall,hfit⟩:=YJ hk ht;have ha:=vO e ht.1 ht.2.2;have hna:=QW e ht.1 ht.2.2;have henc:=qd e;rw[h0]at ha;rw[henc]at ha hna;generalize zD [2] e=N at *;simp[-getElem?_pos,e39,e40,e41,hlt',hxe,henc];refine qc.call ha (by simp) ?_;simp[-getElem?_pos];refine qc.call hna (by simp) ?_;simp[-getElem?_pos];refine qX.listR N (fun dn ev U=>ev 7=.map (u.length+1)/\ev 39=.sl 4 (l.map qr) .none/\ev 40=.int .i64 l.length/\ev 41=.int .i64 d.length/\ev 50=.sl 1 (N.map zZ) .none/\ev 51=.int .i64 N.length/\ev 52=.int .i64 dn.length/\U.H[u.length+1]?=some (.map ((V4 p.vars).map Z0) p.vars.length)) ?_ ?_ ?_
       . exact⟨by simp[e7],by simp[e39],by simp[e40],by simp[e41],by simp,by simp,by simp,qa bM _⟩
       . rintro dn s rest2 ev ⟨H3,T3⟩ R2 hR2 hd2 hxs hlt2 ⟨e7,e39,e40,e41,e50,e51,e52,bM⟩;dsimp only at bM;have hdw2:=wr (n:=(dn.length:Int)+1) (by omega) (by omega);have hlt2':(dn.length:Int)<N.length:=(by omega);obtain⟨v,hvm,hvn⟩:=hall s (qqd hxs);obtain⟨j,hj⟩:=qoP hvm 0;rw[hvn]at hj;have hlk:zm (Dof Tryz.prog) ⟨H3,T3⟩ 309 (.map (u.length+1)) (.str s) false=some (.bool true):=by
          generalize (V4 p.vars).map Z0=E at *;simp[zm,bM,zw,hj]
         simp[-getElem?_pos,e7,e50,e51,e52,hlt2',hxs,hlk,hdw2];exact hR2 _ _ ⟨by simp[e7],by simp[e39],by simp[e40],by simp[e41],by simp[e50],by simp[e51],by simp,bM⟩
       . rintro ev ⟨H3,T3⟩ ⟨e7,e39,e40,e41,e50,e51,e52,bM⟩;simp[-getElem?_pos,e41,e51,e52,hdw];exact hR _ _ ⟨by simp[e7],by simp[e39],by simp[e40],by simp,bM⟩
     . rintro ev ⟨H2,T2⟩ ⟨e7,e39,e40,e41,bM⟩;simp[-getElem?_pos,e40,e41]
theorem Km (p:Problem)(h:VQ p)(hv:qj p=0)(hv20:p.vars.length<=20)(hb:yP p.vars (qz p)<=18)(l:List Ex)(hf:l.length<=1000000)(hx:∀ e∈l,zi p.vars e=0/\JT e) :
 Pure Tryz.prog GG 170 [.agg (qE p),.sl 4 (l.map qr) .none] (.tup [.bool (jO p.vars l),.int .i64 0]):=by
 refine Pure.k qe Tryz.func170 rfl (by kernel_rfl) ?_;have hc:=qmb p h hv l hf hx;have hs:=Qn p l h hv20 hb (by show l.length<_;omega) (fun e he=>(hx e he).2);have hsb:Ji p l=jO p.vars l:=by
  have:l.all (wH p.vars)=true:=qqo.2 fun e he=>decide_eq_true (hx e he).1
  unfold Ji;rw[this];simp[hv]
 rw[hsb]at hs;simp only[qE]at hc hs;simp[-getElem?_pos];refine qc.call hc (by simp) ?_;simp[-getElem?_pos];refine qc.call hs (by simp) ?_;simp[-getElem?_pos]
def Jr (p:Problem)(i:Nat):Str:=match p.vars[i]? with
 | some v=>v.name
 | none=>[]
noncomputable def qck (p:Problem)(fx:Nat->Option Nat):List Nat->List Ex->Nat
 | [],R=>if jO p.vars R=true then 1 else 0
 | i::r,R=>if jO p.vars R=true then (kR (z0 p i) (fx i)).foldl (fun s v=>sat (s+sat (wtP p i v*qck p fx r (R++[eqE (Jr p i) (v:Int)])))) 0 else 0
theorem qgU (p:Problem)(fx:Nat->Option Nat)(g:List Nat)(R:List Ex):qck p fx g R<=lim:=by
 cases g with
 | nil=>unfold qck lim;split<;>omega
 | cons i r=>
  unfold qck;split
  . exact yt _ _ _ (qrS _)
  . exact qrS _
def ptok:Tok->Tok
 | .chain .. =>.none
 | t=>t
def qp6 (R:List Ex)(tok:Tok):Prop:=R≠[]\/tok=.tight
theorem qp6.p {R:List Ex}{tok:Tok}(h:qp6 R tok):R≠[]\/(ptok tok).known=true:=h.imp id fun e=>by rw[e];rfl
def qd0:List (Nat×Sch×List Nat):=[(10,.step 0 [10,9,8,7,1] (.step 1 [10,9,8,7] (.step 2 [10,9,8,7] (.step 3 [10,9,8,7,5,4] (.step 4 [10,9,8,7,5] (.step 5 [10,9,8,7] (.step 6 [10,9,8,7] (.step 7 [10,9,8] (.step 8 [10,9] (.step 9 [10] (.step 10 [] (.done))))))))))),[7]),(11,.step 0 [18,17] (.step 1 [18,17,16,15,9,4,3,2] (.step 2 [18,17,16,15,9,4,3] (.step 3 [18,17,16,15,9,4] (.step 4 [18,17,16,15,9] (.step 5 [18,17,16,15,9,7,6] (.step 6 [18,17,16,15,9,7] (.step 7 [18,17,16,15,9] (.step 8 [18,17,16,15,9] (.step 10 [18,17,16,15] (.step 11 [18,17,16,15,12] (.step 12 [18,17,16,15] (.step 13 [18,17,16,15] (.step 14 [18,17,16,15] (.step 9 [18,17,16,15] (.step 15 [18,17,16] (.step 16 [18,17] (.step 17 [18] (.step 18 [] (.done))))))))))))))))))),[9,15])]
theorem qj3 {s:Spc}(hvq:VQ s.p)(hvp:qj s.p=0)(hv20:s.p.vars.length<=20)(hb:yP s.p.vars (qz s.p)<=18){fx:Nat->Option Nat}(hfx:∀ i x,fx i=some x->x<65536){m:AV} :
 ∀ (g:List Nat) (R:List Ex) (tok:Tok) (H:List Blk) (T:List (Option Nat)),qmB s g->(∀ e∈R,zi s.p.vars e=0/\JT e)->R.length+g.length<=100000->qp6 R tok->SpOk s H->qgo m fx H ->
  qf Tryz.prog GG 112 [.ptr s.S 0,.sl 1 (g.map zE) .none,m,.sl 4 (R.map qr) tok] ⟨H,T⟩ (fun r U'=>r=.int .i64 (qck s.p fx g R:Nat)/\KpL [] H U'.H):=by
 intro g
 induction g with
 | nil=>
  intro R tok H T hg hR hlen htok hs hf;refine qf.kO ⟨false,qd0,[],[]⟩ qe Tryz.func112 rfl (by kernel_rfl) ?_;have hsv:=Km s.p hvq hvp hv20 hb R (by omega) hR;have hS:=hs.c;simp only[spE,qE,qqz,qqw]at hS;simp only[qE]at hsv;have hst:qck s.p fx [] R=if jO s.p.vars R=true then 1 else 0:=rfl
  rw[hst];simp[-getElem?_pos,hS];refine qc.pure hsv (by cases tok<;>simp) (by cases tok<;>simp[zu,Leq,j7.refl]) ?_
  cases hsol:jO s.p.vars R with
  | false=>
   simp[-getElem?_pos,unA];exact KpL.refl
  | true=>
   simp[-getElem?_pos,unA];exact KpL.refl
 | cons i r ih=>
  intro R tok H T hg hR hlen htok hs hf;refine qf.kO ⟨false,qd0,[],[]⟩ qe Tryz.func112 rfl (by kernel_rfl) ?_;have hsv:=Km s.p hvq hvp hv20 hb R (by omega) hR;have hS:=hs.c;simp only[spE,qE,qqz,qqw]at hS;simp only[qE]at hsv;obtain⟨v,l,hv,hw0,hw8,hl,hl20,hwn⟩:=hg i (by simp);have hgr:qmB s r:=fun j hj=>hg j (by simp[hj])
  have hwid:z0 s.p i=v.width.toNat:=by simp[z0,zF,hv]
  have hnm:Jr s.p i=v.name:=by simp[Jr,hv]
  have hval:=qah hs hf hv ⟨hw0,hw8⟩ T;obtain⟨vals,hvals⟩:∃ vals,vals=kR v.width.toNat (fx i):=⟨_,rfl⟩;rw[<- hvals]at hval;have hvb:∀ x∈vals,x<65536:=fun x hx=>by
   rw[hvals]at hx
   cases hfi:fx i with
   | none=>
    rw[hfi]at hx;have:=qri.1 hx;have:2 ^ v.width.toNat<=2 ^ 8:=qqJ (by omega) (by omega);omega
   | some y=>
    rw[hfi]at hx;have:x=y:=by simpa[kR] using hx
    rw[this];exact hfx i y hfi
  have hvl:vals.length<=256:=by
   rw[hvals]
   cases hfi:fx i with
   | none=>simp only[kR,qtn];exact qq6 (qqJ (by omega) (show v.width.toNat<=8 by omega)) (by decide)
   | some y=>simp[kR]
  have hsum:qck s.p fx (i::r) R=if jO s.p.vars R=true then vals.foldl (fun a x=>sat (a+sat (wtP s.p i x*qck s.p fx r (R++[eqE v.name (x:Int)])))) 0 else 0:=by
   rw[hvals,<- hwid,<- hnm];rfl
  obtain⟨f,hff⟩:∃ f:Nat->Nat,∀ x,f x=sat (wtP s.p i x*qck s.p fx r (R++[eqE v.name (x:Int)])):=⟨_,fun _=>rfl⟩;have hfle:∀ x,f x<=lim:=fun x=>by rw[hff];exact Yf _
  simp only[<- hff]at hsum;rw[hsum];simp[-getElem?_pos,hS];refine qc.pure hsv (by cases tok<;>simp) (by cases tok<;>simp[zu,Leq,j7.refl]) ?_
  cases hsol:jO s.p.vars R with
  | false=>
   simp[-getElem?_pos,unA];exact KpL.refl
  | true=>
   have hrn:¬ (r.length:Int)+1=0:=(by omega);simp[-getElem?_pos,unA,zE,hrn];refine qc.acall hval ?_;rintro w ⟨H1,T1⟩ ⟨hk1,hrow⟩;dsimp only at hk1 hrow;have hlenr:=hrow.len;simp[-getElem?_pos,-JG,hlenr];refine qX.listR vals (fun dn ev U=>ev 0=.ptr s.S 0/\ev 1=.sl 1 ((i::r).map zE) .none/\ev 2=m/\ev 3=.sl 4 (R.map qr) tok/\ev 11=.int .i64 (dn.foldl (fun a x=>sat (a+f x)) 0:Nat)/\ev 38=w/\ev 39=.int .i64 vals.length/\ev 40=.int .i64 dn.length/\KpL [] H U.H/\qjw w vals U.H H.length) ?_ ?_ ?_
   . exact⟨by simp,by simp[zE],by simp,by simp,by simp,by simp,by simp,by simp,hk1,hrow⟩
   . rintro dn x rest ev ⟨H2,T2⟩ R2 hR2 hdl hx hlt ⟨e0,e1,e2,e3,e11,e38,e39,e40,hkp,hro⟩;dsimp only at hkp hro;obtain⟨a,ha1,ha2⟩:=hro.at hx;have hdw:=wr (n:=(dn.length:Int)+1) (by omega) (by omega);have hlt':(dn.length:Int)<vals.length:=(by omega);have hxb:=hvb x (qqd hx);have hs2:=hs.keep hkp (by simp) (by simp) (by simp);have hf2:=hf.keep hkp (by simp);have hcl:=qiY R (ptok tok) htok.p;have heq:=qby hs2 hv (x:Int) T2;have hek:=qeG hvq hvp hv (n:=(x:Int)) (by omega) (by omega);have hae:=yh (eqE v.name (x:Int));have hl4:=zc (eqE v.name (x:Int));have hap:=fun H T=>Vl (R:=R) (X:=eqE v.name (x:Int)) (H:=H) (T:=T) (by omega)
     have htk:(qr (eqE v.name (x:Int))).take 4=qr (eqE v.name (x:Int)):=qqk (by rw[hl4];exact qqn _);have hih:=fun n H T=>ih (R++[eqE v.name (x:Int)]) (.chain n 1) H T hgr (fun e he=>by
      rcases qqA.1 he with he|he
      . exact hR e he
      . rw[qqQ]at he;rw[he];exact hek) (by rw[qqg];simp at hlen ⊢;omega) (.inl (by simp))
     have hffx:=hff x;have hfx1:=hfle x;have hsl1:(((i::r).map zE).take (r.length+1)).drop 1=r.map zE:=by
      rw[qqk (by simp)];rfl
     generalize eqE v.name (x:Int)=X at *;simp[-getElem?_pos,-zs,-yR,e38,e39,e40,hlt',ha1,ha2];rw[qG rfl];simp[-getElem?_pos,-qQ,qN,e3];refine qc.pure hcl (by cases tok<;>simp) (by cases tok<;>simp[ptok]) ?_;simp[-getElem?_pos,-qQ,qN,e0,e1,zE];refine qc.acall heq ?_;rintro w3 ⟨H3,T3⟩ ⟨rfl,hk3⟩;dsimp only at hk3;have hs3:=hs2.keep hk3 (by simp) (by simp) (by simp);have hf3:=hf2.keep hk3 (by simp);have hS3:=hs3.c;simp only[spE,qE,qqz,qqw]at hS3;simp[-getElem?_pos,-qQ,qN,hae,hl4,qk,qu,hap];rw[qG rfl];obtain⟨o,ho⟩:∃ o,(jf s.p.vars.length s.p.dists)[i]?=some o:=⟨_,qqe (by rw[yr];exact (qqc.1 hv).1)⟩;have hwt:wtP s.p i x=wtO o (x:Int):=(by simp[wtP,qqm,ho]);have hweigh:=WH s.p hs3.w ho (fun w hw=>hwn w (by rw[ho,hw])) (x:Int) (T3++[some 1]);rw[<- hwt]at hweigh;have hwle:=qdo s.p i x;have hsle:=qgU s.p fx r (R++[X]);have hih1:=hih T3.length H3 (T3++[some 1]) hs3 hf3;generalize qck s.p fx r (R++[X])=sd at *;generalize wtP s.p i x=wx at *;have hacc:dn.foldl (fun a x=>sat (a+f x)) 0<=lim:=yt f dn 0 (qrS _);have hsnoc:(dn++[x]).foldl (fun a x=>sat (a+f x)) 0=sat (dn.foldl (fun a x=>sat (a+f x)) 0+f x):=(by rw[qrp];rfl);generalize dn.foldl (fun a x=>sat (a+f x)) 0=acc at *;have ht:=WS wx sd hwle hsle;rw[<- hffx]at ht;have hp:=qhp acc (f x) hacc hfx1;have hpos:(0:Int)<(r.length:Int)+1:=(by omega);simp only[qrb,qqp,qqU]at hih1;have hsl2:zq (.sl 1 ([AV.int .i64 (i:Int)]::r.map zE) .none) (some (.int .i64 1)) none none=some (.sl 1 (r.map zE) .none):=by
      have h2:(1:Int)<=(r.length:Int)+1:=(by omega);simp[zq,zU,kv,zY,h2,qqk]
     simp[-getElem?_pos,qN,e0,e1,e2,e11,hS3,zE,hsl2];refine qc.acall hweigh ?_;rintro w4 U ⟨rfl,rfl⟩;simp[-getElem?_pos,qN];refine qc.acall hih1 ?_;rintro w5 ⟨H5,T5⟩ ⟨rfl,hk5⟩;dsimp only at hk5;simp[-getElem?_pos,qN];refine qc.call ht (by simp) ?_;simp[-getElem?_pos,qN];refine qc.call hp (by simp) ?_;simp[-getElem?_pos,qN,e40,hdw];exact hR2 _ _ ⟨by simp[e0],by simp[e1,zE],by simp[e2],by simp[e3],by simp[hsnoc],by simp[e38],by simp[e39],by simp,(hkp.trans hk3).trans hk5,((hro.imp id fun ⟨N,h1,h2,h3⟩=>⟨N,h1,h2,hk5.2 _ _ (hk3.2 _ _ h3 (by simp)) (by simp)⟩))⟩
   . rintro ev ⟨H2,T2⟩ ⟨e0,e1,e2,e3,e11,e38,e39,e40,hkp,hro⟩;simp[-getElem?_pos,e11,e39,e40];exact hkp
def NG (p:Problem):List (List Nat):=p.groups.map fun g=>g.map Int.toNat
def yf (g:List Nat):List AV:=[.sl 1 (g.map zE) .none]
theorem WE {p:Problem}(h:qj p=0):p.groups.map zG=(NG p).map yf:=by
 unfold NG;rw[qrz];refine qrk fun g hg=>?_
 simp only[zG,yf,Function.comp,qrz];congr 2;refine qrk fun i hi=>?_
 obtain⟨n,rfl,_⟩:=JJ h i (qqM.2 ⟨g,hg,hi⟩);simp[zE]
theorem QE {p:Problem}(h:qj p=0):p.groups.flatten=(NG p).flatten.map fun n:Nat=>(n:Int):=by
 unfold NG;have:∀ (G:List (List Int)),(∀ i∈G.flatten,∃ n:Nat,i=n)->G.flatten=(G.map fun g=>g.map Int.toNat).flatten.map fun n:Nat=>(n:Int):=by
  intro G hG
  induction G with
  | nil=>rfl
  | cons g r ih=>
   rw[qqW,qqp,qqW,qrb,<- ih fun i hi=>hG i (by simp at hi ⊢;exact .inr hi),qrz];congr 1;have:g=g.map id:=by simp
   rw[this,qrz];refine qrk fun i hi=>?_
   obtain⟨n,rfl⟩:=hG i (by simp[hi]);simp
 exact this _ fun i hi=>by obtain⟨n,h1,_⟩:=JJ h i hi;exact⟨n,h1⟩
def AsR (r:AV)(a:List Int)(H:List Blk):Prop:=(∃ tok,r=.sl 1 (a.map qt) tok)\/∃ N,r=.ms N 0 a.length 1/\H[N]?=some (.cells (zI a))
theorem AsR.at {r:AV}{a:List Int}{H:List Blk}(h:AsR r a H){j:Nat}{x:Int}(hj:a[j]?=some x):∃ u,zs (Dof Tryz.prog) 28 r (.int .i64 (j:Int))=some u/\∀ w T,yR (Dof Tryz.prog) ⟨H++w,T⟩ 3 u=some (.int .i64 x):=by
 have hl:=(qqc.1 hj).1;rcases h with ⟨tok,rfl⟩|⟨N,rfl,hN⟩
 . exact⟨.rptr [.int .i64 x],by simp[-getElem?_pos,hj],fun w T=>by simp⟩
 . have hl':(j:Int)<a.length:=(by omega);have hl1:j+1<=a.length:=hl;have hto:(zI a)[j]?=some (.int .i64 x):=(by rw[Vx,hj];rfl);have hdr:(zI a).drop j=.int .i64 x::(zI a).drop (j+1):=by
    obtain⟨h1,h2⟩:=qqc.1 hto;rw[qqu h1,h2]
   exact⟨.ptr N j,by simp[hl'],fun w T=>by simp[-getElem?_pos,qa hN,hdr,za,hl1]⟩
theorem AsR.at0 {r:AV}{a:List Int}{H:List Blk}(h:AsR r a H){j:Nat}{x:Int}(hj:a[j]?=some x):∃ u,zs (Dof Tryz.prog) 28 r (.int .i64 (j:Int))=some u/\∀ T,yR (Dof Tryz.prog) ⟨H,T⟩ 3 u=some (.int .i64 x):=by
 obtain⟨u,h1,h2⟩:=h.at hj;exact⟨u,h1,fun T=>by have:=h2 [] T;rwa[qqV]at this⟩
theorem AsR.len {r:AV}{a:List Int}{H:List Blk}(h:AsR r a H)(U:St):JG (Dof Tryz.prog) U 28 r=some (.int .i64 (a.length:Nat)):=by
 rcases h with ⟨tok,rfl⟩|⟨N,rfl,_⟩<;>simp
theorem AsR.keep {r:AV}{a:List Int}{H H':List Blk}{bs:List Nat}(h:AsR r a H)(hk:KpL bs H H')(hb:∀ N o n z,r=.ms N o n z->N∉bs):AsR r a H':=by
 rcases h with h|⟨N,rfl,hN⟩
 . exact .inl h
 . exact .inr ⟨N,rfl,hk.2 _ _ hN (hb _ _ _ _ rfl)⟩
def aN (a:List Int)(i:Nat):Nat:=(a.getD i 0).toNat
def QU (s:Spc)(d:List Nd)(a:List Int)(l:List Nat):Nat:=l.foldl (fun node i=>wM d (Zs s.lv i) (z0 s.p i) (aN a i) node (z0 s.p i)) s.root
def KY (s:Spc)(a:List Int)(l:List Nat):List Ex:=s.R++l.map fun i=>eqE (Jr s.p i) (aN a i:Int)
structure SpG (s:Spc)(a:List Int)(l:List Nat):Prop where
 gr:qmB s l
 val:∀ i∈l,∃ n:Nat,a[i]?=some (n:Int)/\n<65536
theorem qia {g:List Nat}{tok:Tok}{k i:Nat}(h:g[k]?=some i):zs (Dof Tryz.prog) 28 (.sl 1 (g.map zE) tok) (.int .i64 (k:Int))=some (.rptr [.int .i64 (i:Int)]):=by simp[-getElem?_pos,h,zE]
theorem qm6 {U:St}{i:Nat}:yR (Dof Tryz.prog) U 3 (.rptr [.int .i64 (i:Int)])=some (.int .i64 (i:Int)):=by simp
def qd2:List (Nat×Sch×List Nat):=[(21,.step 0 [11,10,9,8,1] (.step 1 [11,10,9,8] (.step 2 [11,10,9,8] (.step 3 [11,10,9,8] (.step 4 [11,10,9,8,7,6] (.step 5 [11,10,9,8,7,6] (.step 6 [11,10,9,8,7] (.step 7 [11,10,9,8] (.step 8 [11,10,9] (.step 9 [11,10] (.step 10 [11] (.step 11 [] (.done)))))))))))),[8])]
theorem qmL {G:List (List Nat)}{gi:Nat}(h:gi<=G.length):zq (.sl 1 (G.map yf) .none) none (some (.int .i64 (gi:Int))) none=some (.sl 1 ((G.take gi).map yf) .none):=by
 simp[zq,zU,kv,zY,h]
theorem qn7 {s:Spc}(hvp:qj s.p=0)(hsm:s.small=true){d:List Nd}{tok:Tok}(hd:DagOk d)(hdv:s.dv=.sl 3 (d.map qw) tok)(hroot:s.root<d.length){fx:Nat->Option Nat}(hfx:∀ i x,fx i=some x->x<65536){m:AV}{gi:Nat}{g:List Nat}(hgi:(NG s.p)[gi]?=some g)(hgl:∀ g∈NG s.p,g.length<=1000)(hGl:(NG s.p).length<=1000)
 {r:AV} {a:List Int} {H:List Blk} (hg:qmB s g) (hpre:SpG s a ((NG s.p).take gi).flatten) (hs:SpOk s H) (hf:qgo m fx H) (ha:AsR r a H) (T:List (Option Nat)) :
 qf Tryz.prog GG 57 [.ptr s.S 0,.int .i64 gi,r,m] ⟨H,T⟩ (fun v U'=>v=.int .i64 (VZ s.p s.lv d fx g (QU s d a ((NG s.p).take gi).flatten):Nat)/\KpL [] H U'.H):=by
 refine qf.kO ⟨false,qd2,[],[]⟩ qe Tryz.func57 rfl (by kernel_rfl) ?_;have hS:=hs.c;have hgil:=(qqc.1 hgi).1;have hgil':(gi:Int)<(NG s.p).length:=by omega
 have hG:=WE hvp;simp only[spE,qE,qqz,qqw,hsm,hdv,hG]at hS;have hsl:=qmL (G:=NG s.p) (gi:=gi) (by omega);have htl:((NG s.p).take gi).length<=1000:=by rw[qqP];omega
 have htm:∀ g∈(NG s.p).take gi,g.length<=1000:=fun g hg=>hgl g (qrf hg)
 obtain⟨PG,hPG⟩:∃ PG,PG=(NG s.p).take gi:=⟨_,rfl⟩;rw[<- hPG]at hsl htl htm hpre ⊢;simp[-getElem?_pos,hS,hgi,yf,hsl];have hgg:=hgl g (qqd hgi);refine qX.listR PG (fun dn ev U=>ev 0=.ptr s.S 0/\ev 2=r/\ev 3=m/\ev 9=.sl 1 (g.map zE) .none/\ev 10=.int .i64 (QU s d a dn.flatten:Nat)/\ev 42=.sl 1 (PG.map yf) .none/\ev 43=.int .i64 PG.length/\ev 44=.int .i64 dn.length/\QU s d a dn.flatten<d.length/\KpL [] H U.H) ?_ ?_ ?_
 . exact⟨by simp,by simp,by simp,by simp,by simp[QU],by simp,by simp,by simp,hroot,KpL.refl⟩
 . rintro dn g1 rest ev ⟨H1,T1⟩ R hR hdl hx hlt ⟨e0,e2,e3,e9,e10,e42,e43,e44,hnl,hkp⟩;dsimp only at hkp;have hdw:=wr (n:=(dn.length:Int)+1) (by omega) (by omega);have hlt':(dn.length:Int)<PG.length:=(by omega);have hg1m:=qqd hx;have hg1l:=htm g1 hg1m;simp[-getElem?_pos,e42,e43,e44,hlt',hx,yf];refine qX.listR g1 (fun dg ev U=>ev 0=.ptr s.S 0/\ev 2=r/\ev 3=m/\ev 9=.sl 1 (g.map zE) .none/\ev 10=.int .i64 (QU s d a (dn.flatten++dg):Nat)/\ev 42=.sl 1 (PG.map yf) .none/\ev 43=.int .i64 PG.length/\ev 44=.int .i64 dn.length/\ev 48=.sl 1 (g1.map zE) .none/\ev 49=.int .i64 g1.length/\ev 50=.int .i64 dg.length/\QU s d a (dn.flatten++dg)<d.length/\KpL [] H U.H) ?_ ?_ ?_
   . exact⟨by simp[e0],by simp[e2],by simp[e3],by simp[e9],by simp[e10],by simp[e42],by simp[e43],by simp[e44],by simp,by simp,by simp,by simpa using hnl,hkp⟩
   . rintro dg i rest2 ev ⟨H2,T2⟩ R2 hR2 hdl2 hx2 hlt2 ⟨e0,e2,e3,e9,e10,e42,e43,e44,e48,e49,e50,hnl2,hkp2⟩;dsimp only at hkp2;have hdw2:=wr (n:=(dg.length:Int)+1) (by omega) (by omega);have hlt2':(dg.length:Int)<g1.length:=(by omega);have him:i∈PG.flatten:=qqM.2 ⟨g1,hg1m,qqd hx2⟩;obtain⟨v,l,hv,hw0,hw8,hl,hl20,_⟩:=hpre.gr i him;obtain⟨n,hna,hn16⟩:=hpre.val i him;have hs2:=hs.keep hkp2 (by simp) (by simp) (by simp);have ha2:=ha.keep hkp2 (by simp);obtain⟨u,hu1,hu2⟩:=ha2.at0 hna;have hdes:=Wx hs2 hd hdv hv hl ⟨hw0,hw8⟩ hl20 hnl2 (val:=n) (by omega) T2;have hsn:QU s d a (dn.flatten++(dg++[i]))=wM d l v.width.toNat n (QU s d a (dn.flatten++dg)) v.width.toNat:=by
      rw[<- qqI];unfold QU;rw[qrp];have h1:Zs s.lv i=l:=(by simp[Zs,qqm,hl]);have h2:z0 s.p i=v.width.toNat:=(by simp[z0,zF,hv]);have h3:aN a i=n:=(by simp[aN,qqm,hna]);simp only[qqR,List.foldl_nil,h1,h2,h3]
     have hnl3:=JO hd hnl2 l v.width.toNat n v.width.toNat;rw[<- hsn]at hdes hnl3;have hix:=qia (tok:=.none) hx2;generalize QU s d a (dn.flatten++dg)=nd at *;generalize hn2:QU s d a (dn.flatten++(dg++[i]))=nd2 at *;simp[-getElem?_pos,-zs,-yR,e0,e2,e10,e48,e49,e50,hlt2',hix,qm6,hu1,hu2];refine qc.acall hdes ?_;rintro w ⟨H3,T3⟩ ⟨rfl,hk3⟩;dsimp only at hk3;simp[-getElem?_pos,e50,hdw2];exact hR2 _ _ ⟨by simp[e0],by simp[e2],by simp[e3],by simp[e9],by simp,by simp[e42],by simp[e43],by simp[e44],by simp[e48],by simp[e49],by simp,by first | exact hnl3 | (rw[hn2];exact hnl3),hkp2.trans hk3⟩
   . rintro ev ⟨H2,T2⟩ ⟨e0,e2,e3,e9,e10,e42,e43,e44,e48,e49,e50,hnl2,hkp2⟩;simp[-getElem?_pos,e44,e49,e50,hdw];exact hR _ _ ⟨by simp[e0],by simp[e2],by simp[e3],by simp[e9],by simp[e10],by simp[e42],by simp[e43],by simp,by simpa using hnl2,hkp2⟩
 . rintro ev ⟨H1,T1⟩ ⟨e0,e2,e3,e9,e10,e42,e43,e44,hnl,hkp⟩;dsimp only at hkp;have hH1l:=hkp.1;have hs1:=hs.keep hkp (by simp) (by simp) (by simp);have hf1:=hf.keep hkp (by simp);have hSl:=(qqc.1 hs.c).1;obtain⟨cw,hL,hcw⟩:=hs.w;have hLl:=(qqc.1 hL).1;have hLLl:=hs.b;have hs2:=hs1.keep (H':=H1++[.map [] 0]) (bs:=[]) KpL.app (by simp) (by simp) (by simp);have hf2:=hf1.keep (H':=H1++[.map [] 0]) (bs:=[]) KpL.app (by simp);have hmF:∀ F,m=.map F->F≠H1.length:=fun F hF=>by
    rcases hf1 with ⟨rfl,_⟩|⟨F',es,n,rfl,hF',_⟩
    . cases hF
    . cases hF;have:=(qqc.1 hF').1;omega
   have hsu:=qgS hd hdv hfx hg hgg (K:=H1.length) (by omega) (by omega) (by omega) hmF g.length 0 (by omega) (QU s d a PG.flatten) (H1++[.map [] 0]) T1 hnl hs2 hf2 ⟨[],0,lk0,by simp⟩;simp only[qrn]at hsu;simp[-getElem?_pos,e0,e3,e9,e10,e43,e44,zn,zS,qF];refine qc.acall hsu ?_;rintro w ⟨H3,T3⟩ ⟨rfl,hk3,_⟩;dsimp only at hk3;simp[-getElem?_pos];refine hkp.trans ⟨by have:=hk3.1;simp at this;omega,fun k x hk _=>hk3.2 _ _ (qa hk _) (by have:=(qqc.1 hk).1;simp;omega)⟩
theorem qn6 {s:Spc}(hvq:VQ s.p)(hvp:qj s.p=0)(hv20:s.p.vars.length<=20)(hb:yP s.p.vars (qz s.p)<=18)(hsm:s.small=false)(hRk:∀ e∈s.R,zi s.p.vars e=0/\JT e)(hRl:s.R.length<=50000)(hrt:qp6 s.R s.rtok){fx:Nat->Option Nat}(hfx:∀ i x,fx i=some x->x<65536){m:AV}{gi:Nat}{g:List Nat}(hgi:(NG s.p)[gi]?=some g)(hgl:∀ g∈NG s.p,g.length<=1000)(hGl:(NG s.p).length<=1000)(hfl:(NG s.p).flatten.length<=1000)
 {r:AV} {a:List Int} {H:List Blk} (hg:qmB s g) (hpre:SpG s a ((NG s.p).take gi).flatten) (hs:SpOk s H) (hf:qgo m fx H) (ha:AsR r a H) (T:List (Option Nat)) :
 qf Tryz.prog GG 57 [.ptr s.S 0,.int .i64 gi,r,m] ⟨H,T⟩ (fun v U'=>v=.int .i64 (qck s.p fx g (KY s a ((NG s.p).take gi).flatten):Nat)/\KpL [] H U'.H):=by
 refine qf.kO ⟨false,qd2,[],[]⟩ qe Tryz.func57 rfl (by kernel_rfl) ?_;have hS:=hs.c;have hgil:=(qqc.1 hgi).1;have hgil':(gi:Int)<(NG s.p).length:=by omega
 have hG:=WE hvp;simp only[spE,qE,qqz,qqw,hsm,hG]at hS;have hsl:=qmL (G:=NG s.p) (gi:=gi) (by omega);have htl:((NG s.p).take gi).length<=1000:=by rw[qqP];omega
 have htm:∀ g∈(NG s.p).take gi,g.length<=1000:=fun g hg=>hgl g (qrf hg)
 have hfl2:((NG s.p).take gi).flatten.length<=1000:=by
  have:(NG s.p).flatten=((NG s.p).take gi).flatten++((NG s.p).drop gi).flatten:=by rw[<- qrC,qq8]
  rw[this,qqg]at hfl;omega
 obtain⟨PG,hPG⟩:∃ PG,PG=(NG s.p).take gi:=⟨_,rfl⟩;rw[<- hPG]at hsl htl htm hpre hfl2 ⊢;simp[-getElem?_pos,hS,hgil,hgil',hgi,yf,hsl];have hgg:=hgl g (qqd hgi);have hrl:∀ l,(KY s a l).length=s.R.length+l.length:=fun l=>by simp[KY]
 refine qX.listR PG (fun dn ev U=>ev 0=.ptr s.S 0/\ev 2=r/\ev 3=m/\ev 9=.sl 1 (g.map zE) .none/\(∃ tok,ev 15=.sl 4 ((KY s a dn.flatten).map qr) tok/\qp6 (KY s a dn.flatten) tok)/\ev 81=.sl 1 (PG.map yf) .none/\ev 82=.int .i64 PG.length/\ev 83=.int .i64 dn.length/\KpL [] H U.H) ?_ ?_ ?_
 . exact⟨by simp,by simp,by simp,by simp,⟨s.rtok,by simp[KY],by simpa[KY] using hrt⟩,by simp,by simp,by simp,KpL.refl⟩
 . rintro dn g1 rest ev ⟨H1,T1⟩ R hR hdl hx hlt ⟨e0,e2,e3,e9,⟨tok,e15,htok⟩,e81,e82,e83,hkp⟩;dsimp only at hkp;have hdw:=wr (n:=(dn.length:Int)+1) (by omega) (by omega);have hlt':(dn.length:Int)<PG.length:=(by omega);have hg1m:=qqd hx;have hg1l:=htm g1 hg1m;simp[-getElem?_pos,e0,e2,e3,e9,e15,e81,e82,e83,hlt,hlt',hx,yf];refine qX.listR g1 (fun dg ev U=>ev 0=.ptr s.S 0/\ev 2=r/\ev 3=m/\ev 9=.sl 1 (g.map zE) .none/\(∃ tok,ev 15=.sl 4 ((KY s a (dn.flatten++dg)).map qr) tok/\qp6 (KY s a (dn.flatten++dg)) tok)/\ev 81=.sl 1 (PG.map yf) .none/\ev 82=.int .i64 PG.length/\ev 83=.int .i64 dn.length/\ev 87=.sl 1 (g1.map zE) .none/\ev 88=.int .i64 g1.length/\ev 89=.int .i64 dg.length/\KpL [] H U.H) ?_ ?_ ?_
   . exact⟨by simp[e0],by simp[e2],by simp[e3],by simp[e9],⟨tok,by simp[e15],by simpa using htok⟩,by simp[e81],by simp[e82],by simp[e83],by simp,by simp,by simp,hkp⟩
   . rintro dg i rest2 ev ⟨H2,T2⟩ R2 hR2 hdl2 hx2 hlt2 ⟨e0,e2,e3,e9,⟨tok,e15,htok⟩,e81,e82,e83,e87,e88,e89,hkp2⟩;dsimp only at hkp2;have hdw2:=wr (n:=(dg.length:Int)+1) (by omega) (by omega);have hlt2':(dg.length:Int)<g1.length:=(by omega);have him:i∈PG.flatten:=qqM.2 ⟨g1,hg1m,qqd hx2⟩;obtain⟨v,l,hv,hw0,hw8,hl,hl20,_⟩:=hpre.gr i him;obtain⟨n,hna,hn16⟩:=hpre.val i him;have hs2:=hs.keep hkp2 (by simp) (by simp) (by simp);have ha2:=ha.keep hkp2 (by simp);obtain⟨u,hu1,hu2⟩:=ha2.at0 hna;have heq:=qby hs2 hv (n:Int) T2;have hsn:KY s a (dn.flatten++(dg++[i]))=KY s a (dn.flatten++dg)++[eqE v.name (n:Int)]:=by
      have h2:Jr s.p i=v.name:=(by simp[Jr,hv]);have h3:aN a i=n:=(by simp[aN,qqm,hna]);simp[KY,h2,h3]
     have hlen2:(KY s a (dn.flatten++dg)).length<=60000:=by
      rw[hrl];have:(dn.flatten++dg).length<=PG.flatten.length:=by rw[hdl,hdl2];simp
      omega
     have hcl:=qiY (KY s a (dn.flatten++dg)) (ptok tok) htok.p;have hae:=yh (eqE v.name (n:Int));have hl4:=zc (eqE v.name (n:Int));have htk:(qr (eqE v.name (n:Int))).take 4=qr (eqE v.name (n:Int)):=qqk (by rw[hl4];exact qqn _);have hap:=fun H T=>Vl (R:=KY s a (dn.flatten++dg)) (X:=eqE v.name (n:Int)) (H:=H) (T:=T) (by omega)
     have hix:=qia (tok:=.none) hx2;generalize KY s a (dn.flatten++dg)=R0 at *;generalize eqE v.name (n:Int)=X at *;simp[-getElem?_pos,-zs,-yR,e0,e2,e3,e9,e15,e81,e82,e83,e87,e88,e89,hlt2',hix,qm6];rw[qG rfl];simp[-getElem?_pos,-qQ,-zs,-yR,qN,e0,e2,e3,e9,e15];refine qc.pure hcl (by cases tok<;>simp) (by cases tok<;>simp[zu,Leq,j7.refl,ptok]) ?_;simp[-getElem?_pos,-qQ,-zs,-yR,qN,e0,e2,e3,e9,e15,hu1,hu2];refine qc.acall heq ?_;rintro w ⟨H3,T3⟩ ⟨rfl,hk3⟩;dsimp only at hk3;simp[-getElem?_pos,-qQ,qN,e0,e2,e3,e9,e15,htk,hae,hl4,qk,qu,hap,e81,e82,e83,e87,e88,e89,hdw2];refine hR2 _ _ ⟨by simp[e0],by simp[e2],by simp[e3],by simp[e9],⟨.chain T3.length 1,by simp[hsn],by rw[hsn];exact .inl (by simp)⟩,by simp[e81],by simp[e82],by simp[e83],by simp[e87],by simp[e88],by simp,hkp2.trans hk3⟩
   . rintro ev ⟨H2,T2⟩ ⟨e0,e2,e3,e9,⟨tok,e15,htok⟩,e81,e82,e83,e87,e88,e89,hkp2⟩;simp[-getElem?_pos,e0,e2,e3,e9,e15,e81,e82,e83,e87,e88,e89,hdw];exact hR _ _ ⟨by simp[e0],by simp[e2],by simp[e3],by simp[e9],⟨tok,by simp[e15],by simpa using htok⟩,by simp[e81],by simp[e82],by simp,hkp2⟩
 . rintro ev ⟨H1,T1⟩ ⟨e0,e2,e3,e9,⟨tok,e15,htok⟩,e81,e82,e83,hkp⟩;dsimp only at hkp;have hs1:=hs.keep hkp (by simp) (by simp) (by simp);have hf1:=hf.keep hkp (by simp);have hkn:∀ e∈KY s a PG.flatten,zi s.p.vars e=0/\JT e:=fun e he=>by
    rcases qqA.1 he with he|he
    . exact hRk e he
    . obtain⟨i,hi,rfl⟩:=qqG.1 he;obtain⟨v,l,hv,_⟩:=hpre.gr i hi;obtain⟨n,hna,hn16⟩:=hpre.val i hi;have h2:Jr s.p i=v.name:=(by simp[Jr,hv]);have h3:aN a i=n:=(by simp[aN,qqm,hna]);rw[h2,h3];exact qeG hvq hvp hv (by omega) (by omega)
   have htr:=qj3 hvq hvp hv20 hb hfx (m:=m) g (KY s a PG.flatten) tok H1 T1 hg hkn (by rw[hrl];omega) htok hs1 hf1;simp[-getElem?_pos,e0,e2,e3,e9,e15,e81,e82,e83];refine qc.acall htr ?_;rintro w ⟨H3,T3⟩ ⟨rfl,hk3⟩;dsimp only at hk3;simp[-getElem?_pos];exact hkp.trans hk3
theorem qbM {s:Spc}{H:List Blk}(hs:SpOk s H)(hw:∀ v∈s.p.vars,0<=v.width/\v.width<=8)(hvl:s.p.vars.length<=1000){r:AV}{a:List Int}(ha:AsR r a H)(T:List (Option Nat)) :
 qf Tryz.prog GG 32 [.ptr s.S 0,r] ⟨H,T⟩ (fun v U'=>v=.bool (qH s.p.vars a)/\KpL [] H U'.H):=by
 refine qf.k qe Tryz.func32 rfl (by kernel_rfl) ?_;have hS:=hs.c;have hlen:=ha.len;simp only[spE,qE,qqz,qqw]at hS;obtain⟨res,hres⟩:∃ res,res=qH s.p.vars a:=⟨_,rfl⟩;rw[<- hres];unfold qH at hres;by_cases hl:a.length=s.p.vars.length
 case neg=>
  have hl':¬ (a.length:Int)=s.p.vars.length:=by omega
  have:res=false:=by rw[hres];simp[hl]
  subst this;simp[-getElem?_pos,-JG,hlen,hS,show JG (Dof Tryz.prog) ⟨H,T⟩ 22 (.sl 4 (s.p.vars.map qA) .none)=some (.int .i64 (s.p.vars.length:Nat)) by simp,hl'];exact KpL.refl
 have hl':(a.length:Int)=s.p.vars.length:=by omega
 have hres:res=(s.p.vars.zip a).all z5:=by rw[hres];simp[hl]
 simp[-getElem?_pos,-JG,hlen,hS,show ∀ U,JG (Dof Tryz.prog) U 22 (.sl 4 (s.p.vars.map qA) .none)=some (.int .i64 (s.p.vars.length:Nat)) from fun U=>by simp,hl'];refine qX.listR s.p.vars (fun d ev U=>ev 1=r/\ev 20=.sl 4 (s.p.vars.map qA) .none/\ev 21=.int .i64 s.p.vars.length/\ev 22=.int .i64 d.length/\KpL [] H U.H/\res=((s.p.vars.drop d.length).zip (a.drop d.length)).all z5) ?_ ?_ ?_
 . exact⟨by simp,by simp,by simp,by simp,KpL.refl,by simpa using hres⟩
 . rintro d v rest ev ⟨H1,T1⟩ R hR hd hx hlt ⟨e1,e20,e21,e22,hkp,hr⟩;dsimp only at hkp;have hdw:=wr (n:=(d.length:Int)+1) (by omega) (by omega);have hlt':(d.length:Int)<s.p.vars.length:=(by omega);have hda:d.length<a.length:=(by omega);obtain⟨x,hax⟩:∃ x,a[d.length]?=some x:=⟨_,qqe hda⟩;have hvd:s.p.vars.drop d.length=v::s.p.vars.drop (d.length+1):=by
    obtain⟨h1,h2⟩:=qqc.1 hx;rw[qqu h1,h2]
   have had:a.drop d.length=x::a.drop (d.length+1):=by
    obtain⟨h1,h2⟩:=qqc.1 hax;rw[qqu h1,h2]
   rw[hvd,had,qtj,qrR]at hr;have hwv:=hw v (qqd hx);have hs1:=Qp hwv.1 (by omega);have hwn:¬ v.width<0:=(by omega);have ha1:=ha.keep hkp (by simp);have hszz:((2 ^ v.width.toNat:Nat):Int)=(2:Int) ^ v.width.toNat:=(by simp);have hgo:∀ ev' U',ev' 1=r->ev' 20=.sl 4 (s.p.vars.map qA) .none->ev' 21=.int .i64 s.p.vars.length->ev' 22=.int .i64 (d.length+1:Nat)->KpL [] H U'.H->z5 (v,x)=true->R ev' U':=fun ev' U' b1 b2 b3 b4 b5 b6=>hR _ _ ⟨b1,b2,b3,by rw[b4,qqg,qqK],b5,by rw[hr,b6,qrg,qqg,qqK]⟩
   have hbad:z5 (v,x)=false->res=false:=fun h=>by rw[hr,h];rfl
   unfold z5 at hgo hbad;simp only at hgo hbad;rw[<- hszz]at hgo hbad;generalize 2 ^ v.width.toNat=N at *;have hnext:∀ u,KpL [] H (H1++u):=fun u=>hkp.trans KpL.app
   rcases ha1 with ⟨tok,rfl⟩|⟨A,rfl,hA⟩
   case' inr=>
    have hto:(zI a)[d.length]?=some (.int .i64 x):=(by rw[Vx,hax];rfl);have hdr:(zI a).drop d.length=.int .i64 x::(zI a).drop (d.length+1):=by
     obtain⟨h1,h2⟩:=qqc.1 hto;rw[qqu h1,h2]
    have hla:d.length+1<=a.length:=hda;have hdi:(d.length:Int)<a.length:=by omega
   all_goals
    by_cases hm:v.mode=0
    . by_cases hxv:x=v.value
      . subst hxv;by_cases hx0:v.value<0
        . have hb:=hbad (by simp;omega);subst hb
          first | simp[-getElem?_pos,e1,e20,e21,e22,hlt,hlt',hx,hax,hwn,IntKind.bits,hs1,hdw,unA,hA,qa hA,hdr,za,hla,hdi,hm,hx0] | simp[-getElem?_pos,e1,e20,e21,e22,hlt,hlt',hx,hax,hwn,IntKind.bits,hs1,hdw,unA,hm,hx0]
          exact hnext _
        . by_cases hxN:(N:Int)<=v.value
          . have hb:=hbad (by simp;omega);subst hb
            first | simp[-getElem?_pos,e1,e20,e21,e22,hlt,hlt',hx,hax,hwn,IntKind.bits,hs1,hdw,unA,hA,qa hA,hdr,za,hla,hdi,hm,hx0,hxN] | simp[-getElem?_pos,e1,e20,e21,e22,hlt,hlt',hx,hax,hwn,IntKind.bits,hs1,hdw,unA,hm,hx0,hxN]
            exact hnext _
          . have hg:=hgo
            first | simp[-getElem?_pos,e1,e20,e21,e22,hlt,hlt',hx,hax,hwn,IntKind.bits,hs1,hdw,unA,hA,qa hA,hdr,za,hla,hdi,hm,hx0,hxN] | simp[-getElem?_pos,e1,e20,e21,e22,hlt,hlt',hx,hax,hwn,IntKind.bits,hs1,hdw,unA,hm,hx0,hxN]
            exact hgo _ _ (by simp[e1]) (by simp[e20]) (by simp[e21]) (by simp) (hnext _) (by simp[hm,hx0,hxN];omega)
      . have hb:=hbad (by simp[hm,hxv]);subst hb
        first | simp[-getElem?_pos,e1,e20,e21,e22,hlt,hlt',hx,hax,hwn,IntKind.bits,hs1,hdw,unA,hA,qa hA,hdr,za,hla,hdi,hm,hxv] | simp[-getElem?_pos,e1,e20,e21,e22,hlt,hlt',hx,hax,hwn,IntKind.bits,hs1,hdw,unA,hm,hxv]
        exact hnext _
    . by_cases hx0:x<0
      . have hb:=hbad (by simp;omega);subst hb
        first | simp[-getElem?_pos,e1,e20,e21,e22,hlt,hlt',hx,hax,hwn,IntKind.bits,hs1,hdw,unA,hA,qa hA,hdr,za,hla,hdi,hm,hx0] | simp[-getElem?_pos,e1,e20,e21,e22,hlt,hlt',hx,hax,hwn,IntKind.bits,hs1,hdw,unA,hm,hx0]
        exact hnext _
      . by_cases hxN:(N:Int)<=x
        . have hb:=hbad (by simp;omega);subst hb
          first | simp[-getElem?_pos,e1,e20,e21,e22,hlt,hlt',hx,hax,hwn,IntKind.bits,hs1,hdw,unA,hA,qa hA,hdr,za,hla,hdi,hm,hx0,hxN] | simp[-getElem?_pos,e1,e20,e21,e22,hlt,hlt',hx,hax,hwn,IntKind.bits,hs1,hdw,unA,hm,hx0,hxN]
          exact hnext _
        . have hg:=hgo
          first | simp[-getElem?_pos,e1,e20,e21,e22,hlt,hlt',hx,hax,hwn,IntKind.bits,hs1,hdw,unA,hA,qa hA,hdr,za,hla,hdi,hm,hx0,hxN] | simp[-getElem?_pos,e1,e20,e21,e22,hlt,hlt',hx,hax,hwn,IntKind.bits,hs1,hdw,unA,hm,hx0,hxN]
          exact hgo _ _ (by simp[e1]) (by simp[e20]) (by simp[e21]) (by simp) (hnext _) (by simp[hm,hx0,hxN];omega)
 . rintro ev ⟨H1,T1⟩ ⟨e1,e20,e21,e22,hkp,hr⟩;have:res=true:=by rw[hr,qr1];rfl
   subst this;simp[-getElem?_pos,e20,e21,e22];exact hkp
structure SpV (s:Spc)(d:List Nd):Prop where
 vq:VQ s.p
 vp:qj s.p=0
 v20:s.p.vars.length<=20
 bits:yP s.p.vars (qz s.p)<=18
 rk:∀ e∈s.R,zi s.p.vars e=0/\JT e
 rl:s.R.length<=50000
 rt:qp6 s.R s.rtok
 lv:s.lv=qB s.p
 dag:s.small=true->DagOk d/\(∃ tok,s.dv=.sl 3 (d.map qw) tok)/\s.root<d.length
 ws:∀ (i:Nat) (w:List Weight),(jf s.p.vars.length s.p.dists)[i]?=some (some w)->w≠[]/\w.length<=1000
noncomputable def WU (s:Spc)(d:List Nd)(fx:Nat->Option Nat)(a:List Int)(gi:Nat):Nat :=
 if s.small=true then VZ s.p s.lv d fx ((NG s.p).getD gi []) (QU s d a ((NG s.p).take gi).flatten) else qck s.p fx ((NG s.p).getD gi []) (KY s a ((NG s.p).take gi).flatten)
theorem qcl (s:Spc)(d:List Nd)(fx:Nat->Option Nat)(a:List Int)(gi:Nat):WU s d fx a gi<=lim:=by
 unfold WU;split
 . exact qgX _ _ _ _ _ _
 . exact qgU _ _ _ _
theorem qjy {p:Problem}(h:qj p=0){i:Nat}(hi:i∈(NG p).flatten):∃ (k:Nat),p.groups.flatten[k]?=some (i:Int):=by
 have:(i:Int)∈p.groups.flatten:=by rw[QE h];exact qqG.2 ⟨i,hi,rfl⟩
 exact qqN this
theorem SpV.gr {s:Spc}{d:List Nd}(h:SpV s d){l:List Nat}(hl:∀ i∈l,i∈(NG s.p).flatten):qmB s l:=fun i hi=>by
 obtain⟨k,hk⟩:=qjy h.vp (hl i hi);obtain⟨n,v,hn,hv,hm⟩:=Yn ((jN h.vp).2.1 _ (qqd hk));have hn:n=i:=by omega
 subst hn;have hw:=zd (jl h.vp v (qqd hv));have hl:=YH h.vp hk;have h1:=JB (vP h.vp) (s.p.groups.flatten.take k);have h2:=KP (vP h.vp) s.p.groups.flatten k;have h3:=YV h.vp;refine⟨v,(yO s.p.vars (s.p.groups.flatten.take k)).toNat,hv,by omega,by omega,?_,by omega,h.ws n⟩;rw[h.lv,hl];congr 1;omega
theorem qeS {p:Problem}(h:qj p=0):(NG p).flatten.length<=p.vars.length:=by
 have:=Wm h;rw[QE h,qqS]at this;exact this
theorem VV {p:Problem}(h:qj p=0)(hv:p.vars.length<=1000):(∀ g∈NG p,g.length<=1000)/\(NG p).length<=1000:=by
 have h1:=qeS h;have h2:∀ g∈NG p,g≠[]:=fun g hg=>by
  obtain⟨g',hg',rfl⟩:=qqG.1 hg;have:=(jN h).1 g' hg';simpa using this
 have key:∀ G:List (List Nat),(∀ g∈G,g≠[])->(∀ g∈G,g.length<=G.flatten.length)/\G.length<=G.flatten.length:=by
  intro G
  induction G with
  | nil=>intro _;simp
  | cons a r ih=>
   intro hG;obtain⟨i1,i2⟩:=ih fun g hg=>hG g (by simp[hg])
   have ha:=qqt.2 (hG a (by simp));refine⟨fun g hg=>?_,by rw[qqW,qqg,qqs];omega⟩;rcases qqE.1 hg with rfl|hg
   . simp
   . have:=i1 g hg;rw[qqW,qqg];omega
 obtain⟨k1,k2⟩:=key (NG p) h2;exact⟨fun g hg=>by have:=k1 g hg;omega,by omega⟩
def AOk (p:Problem)(a:List Int):Prop:=∀ i∈(NG p).flatten,∃ n:Nat,a[i]?=some (n:Int)/\n<65536
theorem wO {p:Problem}(h:qj p=0){a:List Int}(ha:qH p.vars a=true):AOk p a:=fun i hi=>by
 obtain⟨k,hk⟩:=qjy h hi;obtain⟨n,v,hn,hv,hm⟩:=Yn ((jN h).2.1 _ (qqd hk));have hn:n=i:=by omega
 subst hn;unfold qH at ha;simp only[qqi,decide_eq_true_eq]at ha;have hil:=(qqc.1 hv).1;obtain⟨x,hx⟩:∃ x,a[n]?=some x:=⟨_,qqe (by omega)⟩;have hz:(v,x)∈p.vars.zip a:=qqd (i:=n) (qrO.2 ⟨hv,hx⟩);have h1:=qqo.1 ha.2 _ hz;unfold z5 at h1;simp only[qqi,decide_eq_true_eq]at h1;have hw:=zd (jl h v (qqd hv));have h2:(2:Nat) ^ v.width.toNat<=2 ^ 8:=qqJ (by omega) (by omega);have h3:((2 ^ v.width.toNat:Nat):Int)=(2:Int) ^ v.width.toNat:=by simp
 exact⟨x.toNat,by rw[hx];congr 1;omega,by omega⟩
theorem qmJ {s:Spc}{d:List Nd}(h:SpV s d){fx:Nat->Option Nat}(hfx:∀ i x,fx i=some x->x<65536){m:AV}{gi:Nat}(hgi:gi<(NG s.p).length){r:AV}{a:List Int}{H:List Blk}(hao:AOk s.p a)(hs:SpOk s H)(hf:qgo m fx H)(ha:AsR r a H)(T:List (Option Nat)) :
 qf Tryz.prog GG 57 [.ptr s.S 0,.int .i64 gi,r,m] ⟨H,T⟩ (fun v U'=>v=.int .i64 (WU s d fx a gi:Nat)/\KpL [] H U'.H):=by
 obtain⟨g,hg⟩:∃ g,(NG s.p)[gi]?=some g:=⟨_,qqe hgi⟩;have hgd:(NG s.p).getD gi []=g:=by simp[qqm,hg]
 have hl:=VV h.vp h.vq.vars;have hfl:(NG s.p).flatten.length<=1000:=qq6 (qeS h.vp) h.vq.vars;have hgr:qmB s g:=h.gr fun i hi=>qqM.2 ⟨g,qqd hg,hi⟩
 have hsub:∀ i∈((NG s.p).take gi).flatten,i∈(NG s.p).flatten:=fun i hi=>by
  obtain⟨g',hg',hi'⟩:=qqM.1 hi;exact qqM.2 ⟨g',qrf hg',hi'⟩
 have hpre:SpG s a ((NG s.p).take gi).flatten:=⟨h.gr hsub,fun i hi=>hao i (hsub i hi)⟩;unfold WU;rw[hgd];by_cases hsm:s.small=true
 . obtain⟨hd,⟨tok,hdv⟩,hr⟩:=h.dag hsm;rw[if_pos hsm];exact qn7 h.vp hsm hd hdv hr hfx hg hl.1 hl.2 hgr hpre hs hf ha T
 . rw[if_neg hsm];exact qn6 h.vq h.vp h.v20 h.bits (by simpa using hsm) h.rk h.rl h.rt hfx hg hl.1 hl.2 hfl hgr hpre hs hf ha T
noncomputable def KO (s:Spc)(d:List Nd)(gi:Int)(a:List Int):Int×Int :=
 if gi<0\/((NG s.p).length:Int)<=gi\/qH s.p.vars a=false then (0,1)
 else if WU s d (fun _=>none) a gi.toNat=0 then (0,11) else if WU s d (fun _=>none) a gi.toNat=lim then (0,3) else (WU s d (fun _=>none) a gi.toNat,0)
theorem WR {s:Spc}{d:List Nd}(h:SpV s d)(gi:Int){r:AV}{a:List Int}{H:List Blk}(hs:SpOk s H)(ha:AsR r a H)(T:List (Option Nat)) :
 qf Tryz.prog GG 26 [.ptr s.S 0,.int .i64 gi,r] ⟨H,T⟩ (fun v U'=>v=.tup [.int .i64 (KO s d gi a).1,.int .i64 (KO s d gi a).2]/\KpL [] H U'.H):=by
 refine qf.k qe Tryz.func26 rfl (by kernel_rfl) ?_;have hS:=hs.c;have hG:=WE h.vp;have hw:∀ v∈s.p.vars,0<=v.width/\v.width<=8:=fun v hv=>by have:=zd (jl h.vp v hv);omega
 have has:=qbM hs hw h.vq.vars ha T;simp only[spE,qE,qqz,qqw,hG]at hS;obtain⟨res,hres⟩:∃ res,res=KO s d gi a:=⟨_,rfl⟩;rw[<- hres];unfold KO at hres;by_cases h0:gi<0
 . rw[if_pos (.inl h0)]at hres;subst hres;simp[-getElem?_pos,h0,hS,unA];exact KpL.refl
 by_cases h1:((NG s.p).length:Int)<=gi
 . rw[if_pos (.inr (.inl h1))]at hres;subst hres;simp[-getElem?_pos,h0,h1,hS,unA];exact KpL.refl
 simp[-getElem?_pos,h0,h1,hS,unA];refine qc.acall has ?_;rintro v ⟨H1,T1⟩ ⟨rfl,hk1⟩;dsimp only at hk1
 cases hA:qH s.p.vars a with
 | false=>
  rw[if_pos (.inr (.inr hA))]at hres;subst hres;simp[-getElem?_pos,unA];exact hk1
 | true=>
  rw[if_neg (by simp[h0,hA];omega)]at hres;obtain⟨g,rfl⟩:=qqL (by omega:0<=gi);have hsu:=qmJ h (fx:=fun _=>none) (by simp) (m:=.nilm) (gi:=g) (by omega) (wO h.vp hA) (hs.keep hk1 (by simp) (by simp) (by simp)) (.inl ⟨rfl,fun _=>rfl⟩) (ha.keep hk1 (by simp)) T1;rw[qqT]at hres;have hle:=qcl s d (fun _=>none) a g;generalize WU s d (fun _=>none) a g=n at *;simp[-getElem?_pos,unA];refine qc.acall hsu ?_;rintro v ⟨H2,T2⟩ ⟨rfl,hk2⟩;dsimp only at hk2;have hkk:=hk1.trans hk2;by_cases hn0:n=0
  . rw[if_pos hn0]at hres;subst hres;simp[-getElem?_pos,hn0];exact hkk
  . rw[if_neg hn0]at hres;have hn0':¬ (n:Int)=0:=(by omega);by_cases hnl:n=lim
    . rw[if_pos hnl]at hres;subst hres;have hnl':(n:Int)=1099511627777:=(by rw[hnl];rfl);simp[-getElem?_pos,hn0,hn0',hnl'];exact hkk
    . rw[if_neg hnl]at hres;subst hres;have hnl':¬ (n:Int)=1099511627777:=(by unfold lim at hnl;omega);simp[-getElem?_pos,hn0,hn0',hnl'];exact hkk
end Go.Proofs.YtkpkjbchlabaaaaGreatDoor
end
