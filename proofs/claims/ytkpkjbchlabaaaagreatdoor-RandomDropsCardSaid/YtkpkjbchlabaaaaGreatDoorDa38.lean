/- A part of the proof. -/
import Derived.Test.YtkpkjbchlabaaaaGreatDoorDa35
import Derived.Test.YtkpkjbchlabaaaaGreatDoorDa36
import Derived.Test.YtkpkjbchlabaaaaGreatDoorDa37
set_option linter.unusedVariables false
set_option linter.unusedSimpArgs false
set_option maxRecDepth 100000
set_option maxHeartbeats 16000000
set_option linter.defProp false
section
namespace Go.Proofs.YtkpkjbchlabaaaaGreatDoor
open Go Go.Abs
theorem Kq (n:Nat):sat n=min n 1099511627777:=rfl
theorem qgj (a b:Nat)(ha:a<=lim)(hb:b<=lim):Pure Tryz.prog GG 169 [.int .i64 a,.int .i64 b] (.int .i64 (sat (a+b):Nat)):=by
 refine Pure.k qe Tryz.func169 rfl (by kernel_rfl) ?_;unfold lim at ha hb;have hw:=wr (n:=(a:Int)+b) (by omega) (by omega);have hm:wK (.int .i64 ((a:Int)+b)) (.int .i64 1099511627777)=some (.int .i64 (sat (a+b):Nat)):=by
  simp only[wK,Kq];congr 2;split<;>omega
 simp[-getElem?_pos,hw,hm]
theorem Wf (a b:Nat)(ha:a<=lim)(hb:b<=lim):Pure Tryz.prog GG 69 [.int .i64 a,.int .i64 b] (.int .i64 (sat (a*b):Nat)):=by
 refine Pure.k qe Tryz.func69 rfl (by kernel_rfl) ?_;unfold lim at ha hb;by_cases h1:a=0
 . subst h1;simp[-getElem?_pos,Kq]
 by_cases h2:b=0
 . subst h2;simp[-getElem?_pos,h1,Kq]
 have hq:(1099511627777:Int).tdiv (b:Int)=((1099511627777 / b:Nat):Int):=by
  rw[qqU (by omega)];simp
 have hqle:1099511627777 / b<=1099511627777:=qp0 _ _;have hwq:IntKind.i64.wrap ((1099511627777 / b:Nat):Int)=((1099511627777 / b:Nat):Int):=by
  generalize 1099511627777 / b=q at *;exact wr (by omega) (by omega)
 have h2':¬ (b:Int)=0:=by omega
 have h1':¬ (a:Int)=0:=by omega
 by_cases hgt:1099511627777 / b<a
 . have hgt':((1099511627777 / b:Nat):Int)<(a:Int):=Int.ofNat_lt.2 hgt;have hs:sat (a*b)=1099511627777:=by
    have:1099511627777<a*b:=(Nat.div_lt_iff_lt_mul (by omega)).1 hgt;rw[Kq];omega
   generalize 1099511627777 / b=q at *;simp[-getElem?_pos,-zp,V0,ZL,qlK,h1,h2,h1',h2',hs,show zp .quo .i64 1099511627777 b=some (.int .i64 (q:Int)) by simp only[zp];rw[if_neg h2',hq,hwq],hgt]
 . have hgt':¬ ((1099511627777 / b:Nat):Int)<(a:Int):=fun h=>hgt (Int.ofNat_lt.1 h)
   have hle:a*b<=1099511627777:=(Nat.le_div_iff_mul_le (by omega)).1 (by omega);have hww:=wr (n:=(a:Int)*b) (by
    have:(0:Int)<=(a:Int)*b:=by rw[<- qq5];omega
    omega) (by
    rw[<- qq5];omega)
   have hm:wK (.int .i64 ((a:Int)*b)) (.int .i64 1099511627777)=some (.int .i64 (sat (a*b):Nat)):=by
    simp only[wK,Kq];rw[<- qq5];congr 2;split<;>omega
   generalize hqq:1099511627777 / b=q at *;simp[-getElem?_pos,-zp,V0,op_mul,qlK,h1,h2,h1',h2',show zp .quo .i64 1099511627777 b=some (.int .i64 (q:Int)) by simp only[zp];rw[if_neg h2',hq,hwq],hgt,hww,hm]
def jx (n:Nat)(l:List Dist):List (Option (List Weight)):=l.foldl (fun o d=>o.set d.var.toNat (some d.weights)) (List.replicate n none)
def qhu (o:Option (List Weight)):List AV:=match o with
 | none=>[.sl 0 [] .nil]
 | some w=>[.sl 4 (w.map qA) .none]
theorem yH (n:Nat)(l:List Dist):(jx n l).length=n:=by
 have:∀ (l:List Dist) (o:List (Option (List Weight))),(l.foldl (fun o d=>o.set d.var.toNat (some d.weights)) o).length=o.length:=by
  intro l
  induction l with
  | nil=>intro o;rfl
  | cons a r ih=>intro o;rw[qpA,ih];simp
 unfold jx;rw[this];simp
theorem qbQ (n:Nat)(l:List Dist)(d:Dist):jx n (l++[d])=(jx n l).set d.var.toNat (some d.weights):=by simp[jx,qp5]
theorem qeR {n:Nat}:∀ {l:List Dist} {w:List Weight},some w∈jx n l->∃ d∈l,d.weights=w:=by
 have gen:∀ (l:List Dist) (o:List (Option (List Weight))) (w:List Weight),some w∈l.foldl (fun o d=>o.set d.var.toNat (some d.weights)) o->some w∈o\/∃ d∈l,d.weights=w:=by
  intro l
  induction l with
  | nil=>intro o w h;exact .inl h
  | cons a r ih=>
   intro o w h;rw[qpA]at h;rcases ih _ w h with h|⟨d,hd,he⟩
   . rcases qqB h with h|h
     . exact .inl h
     . cases h;exact .inr ⟨a,by simp,rfl⟩
   . exact .inr ⟨d,by simp[hd],he⟩
 intro l w h;rcases gen l _ w h with h|h
 . rw[qqf]at h;cases h.2
 . exact h
def WFn (p:Problem)(L LL:Nat)(H:List Blk):Prop:=∃ c,H[L]?=some (.cells [c])/\(p.vars≠[]->c=.ms LL 0 p.vars.length 1/\H[LL]?=some (.cells ((jx p.vars.length p.dists).flatMap qhu)))
def WghQ (p:Problem)(H:List Blk)(r:AV)(U':St):Prop:=KpL [] H U'.H/\∃ L LL,r=.fn 98 [] [.ptr L 0]/\H.length<=L/\H.length<=LL/\WFn p L LL U'.H
theorem qht (o:Option (List Weight)):(qhu o).length=1:=by cases o<;>rfl
theorem qiG (p:Problem)(h:VQ p)(hv:qk p=0)(H:List Blk)(T:List (Option Nat)):qf Tryz.prog GG 51 [.agg (qG p)] ⟨H,T⟩ (WghQ p H):=by
 refine qf.k qe Tryz.func51 rfl (by kernel_rfl) ?_;have hvd:=qfK hv;have hvl:=h.vars;have hdf:=h.dists;by_cases hv0:p.vars=[]
 . have hd0:p.dists=[]:=by
    apply qrG.2;intro d hd;obtain⟨i,v,_,hi⟩:=hvd d hd;rw[hv0]at hi;simp at hi
   have fin:∀ (u:List Blk) (T':List (Option Nat)) (B0:Blk) (c:AV),WghQ p H (.fn 98 [] [.ptr (H.length+1) 0]) ⟨H++B0::.cells [c]::u,T'⟩:=fun u T' B0 c=>⟨KpL.app,H.length+1,H.length+1,rfl,by omega,by omega,c,lk1,fun hn=>absurd hv0 hn⟩
   simp[-getElem?_pos,hv0,hd0,qy];refine qX.gen (fun m ev U=>ev 3=.ptr (H.length+1) 0/\ev 12=.int .i64 0/\ev 13=.int .i64 0/\∃ B0 c u T',U=⟨H++B0::.cells [c]::u,T'⟩) 0 ⟨by simp,by simp,by simp,_,_,_,_,rfl⟩ ?_;rintro m ev U R hR ⟨e3,e12,e13,B0,c,u,T',rfl⟩;simp[-getElem?_pos,e3,e12,e13];exact fin _ _ _ _
 . have hpos:=qo6.2 hv0;have hne:¬ (p.vars.length:Int)=0:=(by omega);have hle:(p.vars.length:Int)<=549755813888:=(by omega);simp[-getElem?_pos,hv0,hne,hle,qy];refine qX.listR p.dists (fun d ev U=>ev 3=.ptr (H.length+2) 0/\ev 11=.sl 2 (p.dists.map zG) .none/\ev 12=.int .i64 p.dists.length/\ev 13=.int .i64 d.length/\KpL [] H U.H/\U.H[H.length+2]?=some (.cells [.ms (H.length+1) 0 p.vars.length 1])/\U.H[H.length+1]?=some (.cells ((jx p.vars.length d).flatMap qhu))) ?_ ?_ ?_
   . refine⟨by simp,by simp,by simp,by simp,KpL.app,lk2,?_⟩;have:(jx p.vars.length []).flatMap qhu=List.replicate p.vars.length (.sl 0 [] .nil):=by
      show (List.replicate p.vars.length none).flatMap qhu=_;rw[qqw,qrt];show (List.replicate p.vars.length [AV.sl 0 [] .nil]).flatten=_;simp
     rw[this];exact lk1
   . rintro d x rest ev ⟨H1,T1⟩ R hR hd hx hlt ⟨e3,e11,e12,e13,hkp,b2,b1⟩;dsimp only at hkp b2 b1;have hdw:=wr (n:=(d.length:Int)+1) (by unfold Fits at hdf;omega) (by unfold Fits at hdf;omega);have hlt':(d.length:Int)<p.dists.length:=(by omega);obtain⟨i,v,hi,hvi⟩:=hvd x (qoR hx);have hil:=(qoQ.1 hvi).1;have hil':(i:Int)<p.vars.length:=(by omega);have hi1:i+1<=p.vars.length:=hil;have hll:=yH p.vars.length d;have hfl:=Go.Abs.z9 (sz:=1) qht (jx p.vars.length d);rw[hll,Nat.mul_one]at hfl;have hset:((jx p.vars.length d).flatMap qhu).set i (.sl 4 (x.weights.map qA) .none)=(jx p.vars.length (d++[x])).flatMap qhu:=by
      have:=vw qht (jx p.vars.length d) i (some x.weights) (by omega);rw[qbQ,hi,qpC,<- this];simp[qhu,zi]
     have hl1:=(qoQ.1 b1).1;generalize (jx p.vars.length d).flatMap qhu=F at *;simp[-getElem?_pos,e3,e11,e12,e13,hlt,hlt',hx,qa b2,qa b1,yz b1,hi,hil',hfl,hi1,hset,hdw];refine hR _ _ ⟨by simp[e3],by simp[e11],by simp[e12],by simp,(hkp.setF (by omega)).trans KpL.app,qa (by rw[qoT (by omega)];exact b2) _,qa (qoX hl1) _⟩
   . rintro ev ⟨H1,T1⟩ ⟨e3,e11,e12,e13,hkp,b2,b1⟩;dsimp only at hkp b2 b1;simp[-getElem?_pos,e3,e12,e13];exact⟨hkp,H.length+2,H.length+1,rfl,by omega,by omega,_,b2,fun _=>⟨rfl,b1⟩⟩
def wtO (o:Option (List Weight))(v:Int):Nat:=match o with
 | none=>1
 | some w=>if (yK w v).2≠0 then lim else sat (yK w v).1.toNat
theorem wtO_le (o:Option (List Weight))(v:Int):wtO o v<=lim:=by
 unfold wtO;split
 . unfold lim;omega
 . split
   . exact qo0 _
   . exact Kp _
theorem qn4 (n:Nat):0<=(qbc n).1:=by
 unfold qbc;split<;>simp
theorem qd0 (l:List Weight)(v:Int):0<=(yK l v).1:=by
 unfold yK;split
 . simp
 . split
   . simp
   . unfold Q4;split
     . simp
     . split<;>exact qn4 _
def qci (o:Option (List Weight)):AV:=match o with
 | none=>.sl 0 [] .nil
 | some w=>.sl 4 (w.map qA) .none
theorem qoe (o:Option (List Weight)):qhu o=[qci o]:=by cases o<;>rfl
theorem flatL (l:List (Option (List Weight))):l.flatMap qhu=l.map qci:=by
 induction l with
 | nil=>rfl
 | cons a r ih=>rw[qpf,ih,qoe];rfl
theorem qjT {α:Type}(f:α->AV){l:List α}{i:Nat}{x:α}(h:l[i]?=some x):(l.map f).drop i=f x::(l.map f).drop (i+1):=by
 obtain⟨h1,h2⟩:=qoQ.1 h;rw[qo9 (by simpa using h1),qqc,h2]
theorem K6 (p:Problem){L LL:Nat}{H:List Blk}(hw:WFn p L LL H){i:Nat}{o:Option (List Weight)}(hi:(jx p.vars.length p.dists)[i]?=some o)(ho:∀ w,o=some w->w≠[]/\w.length<=1000)(v:Int)(T:List (Option Nat)) :
 qf Tryz.prog GG 98 [.int .i64 (i:Int),.int .i64 v,.ptr L 0] ⟨H,T⟩ (fun r U'=>r=.int .i64 (wtO o v:Nat)/\U'=⟨H,T⟩):=by
 refine qf.k qe Tryz.func98 rfl (by kernel_rfl) ?_;have hil:=(qoQ.1 hi).1;rw[yH]at hil;have hne:p.vars≠[]:=fun e=>by rw[e]at hil;simp at hil
 obtain⟨c,hL,hc⟩:=hw;obtain⟨rfl,hLL⟩:=hc hne;rw[flatL]at hLL;have hdr:=qjT qci hi;have hlen:((jx p.vars.length p.dists).map qci).length=p.vars.length:=by rw[qpv,yH]
 have hil':(i:Int)<p.vars.length:=by omega
 have hi1:i+1<=p.vars.length:=hil;generalize (jx p.vars.length p.dists).map qci=F at *
 cases o with
 | none=>
  simp[-getElem?_pos,hL,hLL,hil',hi1,hlen,hdr,qci,qQ,Q8,TD.isSl,wtO]
 | some w=>
  obtain⟨hwn,hwl⟩:=ho w rfl;obtain⟨a,r,rfl⟩:=qri hwn;have h51:=qiF (a::r) hwl v;have hnn:=qd0 (a::r) v;have hwt:wtO (some (a::r)) v=if (yK (a::r) v).2≠0 then lim else sat (yK (a::r) v).1.toNat:=rfl
  rw[hwt];generalize yK (a::r) v=wd at *;obtain⟨x,e⟩:=wd;simp only at hnn h51 ⊢;have hm:wK (.int .i64 x) (.int .i64 1099511627777)=some (.int .i64 (sat x.toNat:Nat)):=by
   simp only[wK,Kq];congr 2;split<;>omega
  simp[-getElem?_pos,hL,hLL,hil',hi1,hlen,hdr,qci,qQ,Q8,TD.isSl];refine qc.call (by simpa using h51) (by simp) ?_;by_cases he:e=0
  . simp[-getElem?_pos,he,hm]
  . simp[-getElem?_pos,he,lim]
structure Spc where
 S:Nat
 L:Nat
 LL:Nat
 p:Problem
 R:List Ex
 rtok:Tok
 lv:List Int
 dv:AV
 root:Nat
 small:Bool
def spE (s:Spc):List AV:=qG s.p++[.sl 4 (s.R.map qq) s.rtok,.sl 1 (s.lv.map qu) .none,s.dv,.int .i64 s.root,.bool s.small,.fn 98 [] [.ptr s.L 0]]
structure SpOk (s:Spc)(H:List Blk):Prop where
 c:H[s.S]?=some (.cells (spE s))
 w:WFn s.p s.L s.LL H
 b:s.LL<H.length
theorem SpOk.keep {s:Spc}{H H':List Blk}{bs:List Nat}(h:SpOk s H)(hk:KpL bs H H')(h1:s.S∉bs)(h2:s.L∉bs)(h3:s.LL∉bs):SpOk s H':=by
 refine⟨hk.2 _ _ h.c h1,?_,qo4 h.b hk.1⟩;obtain⟨c,hL,hc⟩:=h.w;exact⟨c,hk.2 _ _ hL h2,fun hn=>⟨(hc hn).1,hk.2 _ _ (hc hn).2 h3⟩⟩
theorem qkl {d:List Nd}(h:DagOk d){f:Nat}(hf:f<d.length)(L:Nat)(o:Bool):jN d f L o<d.length:=by
 have hn:=qoS hf;unfold jN;rw[hn];simp only;split
 . by_cases h2:2<=f
   . obtain⟨g1,g2,g3,g4,g5,g6⟩:=h.node f _ h2 hn;split<;>omega
   . have ht:=h.two;have:f=0\/f=1:=by omega
     rcases this with rfl|rfl
     . have e:=h.n0;rw[hn]at e;rw[Option.some.inj e];split<;>simp<;>omega
     . have e:=h.n1;rw[hn]at e;rw[Option.some.inj e];split<;>simp<;>omega
 . exact hf
def wz (d:List Nd)(l w:Nat)(v:Nat)(node:Nat)(k:Nat):Nat:=(List.range k).foldl (fun node k=>jN d node (l+k) (v.testBit (w-1-k))) node
theorem Zr (d:List Nd)(l w v node k:Nat):wz d l w v node (k+1)=jN d (wz d l w v node k) (l+k) (v.testBit (w-1-k)):=by simp[wz,qqe,qp5]
theorem Jv {d:List Nd}(h:DagOk d){node:Nat}(hn:node<d.length)(l w v:Nat):∀ k,wz d l w v node k<d.length
 | 0=>hn
 | k+1=>by rw[Zr];exact qkl h (Jv h hn l w v k) _ _
theorem qle (n i:Nat)(hn:n<2 ^ 63):zp .and .i64 ((n:Int).fdiv (2 ^ i)) 1=some (.int .i64 (if n.testBit i=true then 1 else 0)):=by
 rw[qii n i hn];cases n.testBit i<;>rfl
theorem KR {s:Spc}{H:List Blk}(h:SpOk s H){d:List Nd}{tok:Tok}(hd:DagOk d)(hdv:s.dv=.sl 3 (d.map qt) tok){i l node val:Nat}{v:Var}(hv:s.p.vars[i]?=some v)(hl:s.lv[i]?=some (l:Int))(hw:0<=v.width/\v.width<=8)(hlw:l<=20)(hn:node<d.length)(hval:val<2 ^ 16)(T:List (Option Nat)) :
 qf Tryz.prog GG 108 [.ptr s.S 0,.int .i64 node,.int .i64 i,.int .i64 val] ⟨H,T⟩ (fun r U'=>r=.int .i64 (wz d l v.width.toNat val node v.width.toNat:Nat)/\KpL [] H U'.H):=by
 refine qf.k qe Tryz.func108 rfl (by kernel_rfl) ?_;have hS:=h.c;have hil:=(qoQ.1 hv).1;have hill:=(qoQ.1 hl).1;have hdm:=hd.most;simp only[spE,qG,qpd,qpa,hdv]at hS;have hwn:v.width=(v.width.toNat:Int):=by omega
 generalize hwN:v.width.toNat=w at *;simp[-getElem?_pos,hS,hv,hil,hwn];refine yo w (fun k ev U=>ev 0=.ptr s.S 0/\ev 1=.int .i64 (wz d l w val node k:Nat)/\ev 2=.int .i64 (i:Int)/\ev 3=.int .i64 (val:Int)/\ev 9=.int .i64 (w:Int)/\ev 21=.int .i64 (w:Int)/\ev 22=.int .i64 (k:Int)/\KpL [] H U.H) ?_ ?_ ?_
 . exact⟨by simp,by simp[wz],by simp,by simp,by simp,by simp,by simp,KpL.refl⟩
 . rintro k ev ⟨H1,T1⟩ R hR hkw ⟨e0,e1,e2,e3,e9,e21,e22,hkp⟩;dsimp only at hkp;have hS1:=hkp.2 _ _ hS (by simp);have hnl:=Jv hd hn l w val k;have hsucc:=Zr d l w val node k;generalize wz d l w val node k=nd at *;obtain⟨n,hnn⟩:∃ n,d[nd]?=some n:=⟨_,qoS hnl⟩;have hk':(k:Int)<w:=(by omega);have hwk:=wr (n:=(k:Int)+1) (by omega) (by omega);have hlk:=wr (n:=(l:Int)+k) (by omega) (by omega);have hw1:=wr (n:=(w:Int)-1) (by omega) (by omega);have hw2:=wr (n:=(w:Int)-1-k) (by omega) (by omega);have hsub:(w:Int)-1-k=((w-1-k:Nat):Int):=(by omega);rw[hsub]at hw2;have hmin:min (w-1-k) 64=w-1-k:=(by omega);have hand:=qle val (w-1-k) (by omega);have hneg:¬ ((w-1-k:Nat):Int)<0:=(by omega);unfold jN at hsucc;rw[hnn]at hsucc;simp only at hsucc;generalize hm:w-1-k=m at *;by_cases hlv:n.1=l+k
   . have hlv':(n.1:Int)=(l:Int)+k:=(by omega);rw[if_pos hlv]at hsucc
     cases hbit:val.testBit m with
     | true=>
      rw[hbit,if_pos rfl]at hsucc;rw[hbit]at hand;simp[-getElem?_pos,-zp,qda,ZL,J6,qgs,V0,e0,e1,e2,e3,e9,e21,e22,hk',qa hS1,hS1,hnn,hnl,hl,hill,hlk,hlv',hw1,hsub,hw2,hmin,IntKind.bits,hand,hneg,hwk];exact hR _ _ ⟨by simp[e0],by simp[hsucc],by simp[e2],by simp[e3],by simp[e9],by simp[e21],by simp,hkp.trans KpL.app⟩
     | false=>
      rw[hbit,if_neg (by simp)]at hsucc;rw[hbit]at hand;simp[-getElem?_pos,-zp,qda,ZL,J6,qgs,V0,e0,e1,e2,e3,e9,e21,e22,hk',qa hS1,hS1,hnn,hnl,hl,hill,hlk,hlv',hw1,hsub,hw2,hmin,IntKind.bits,hand,hneg,hwk];exact hR _ _ ⟨by simp[e0],by simp[hsucc],by simp[e2],by simp[e3],by simp[e9],by simp[e21],by simp,hkp.trans KpL.app⟩
   . have hlv':¬ (n.1:Int)=(l:Int)+k:=(by omega);rw[if_neg hlv]at hsucc;simp[-getElem?_pos,-zp,qda,ZL,J6,qgs,V0,e0,e1,e2,e3,e9,e21,e22,hk',qa hS1,hS1,hnn,hnl,hl,hill,hlk,hlv',hwk];exact hR _ _ ⟨by simp[e0],by simp[e1,hsucc],by simp[e2],by simp[e3],by simp[e9],by simp[e21],by simp,hkp.trans KpL.app⟩
 . rintro ev ⟨H1,T1⟩ ⟨e0,e1,e2,e3,e9,e21,e22,hkp⟩;simp[-getElem?_pos,e0,e1,e2,e3,e9,e21,e22];exact hkp
def qfo (m:AV)(fx:Nat->Option Nat)(H:List Blk):Prop :=
 (m=.nilm/\∀ i,fx i=none)\/∃ F es n,m=.map F/\H[F]?=some (.map es n)/\∀ i:Nat,match fx i with
   | none=>jt (.int .i64 (i:Int)) es 0=some none
   | some x=>∃ j,jt (.int .i64 (i:Int)) es 0=some (some (j,.int .i64 (x:Int)))
theorem qfo.keep {m:AV}{fx:Nat->Option Nat}{H H':List Blk}{bs:List Nat}(h:qfo m fx H)(hk:KpL bs H H')(hb:∀ F,m=.map F->F∉bs):qfo m fx H':=by
 rcases h with h|⟨F,es,n,rfl,hF,h⟩
 . exact .inl h
 . exact .inr ⟨F,es,n,rfl,hk.2 _ _ hF (hb F rfl),h⟩
theorem qfo.look {m:AV}{fx:Nat->Option Nat}{H:List Blk}(h:qfo m fx H)(i:Nat)(T:List (Option Nat)):zm (Dof Tryz.prog) ⟨H,T⟩ 106 m (.int .i64 (i:Int)) true=some (match fx i with | none=>.tup [.int .i64 0,.bool false] | some x=>.tup [.int .i64 (x:Int),.bool true]):=by
 rcases h with ⟨rfl,h⟩|⟨F,es,n,rfl,hF,h⟩
 . rw[h i];simp[zm,zt,jt,K4]
 . have:=h i
   cases hx:fx i with
   | none=>rw[hx]at this;simp[zm,zt,hF,this,K4]
   | some x=>
    rw[hx]at this;obtain⟨j,hj⟩:=this;simp[zm,zt,hF,hj,K4]
def zD (n:Nat):List AV:=[.int .i64 (n:Int)]
def qin (r:AV)(vals:List Nat)(H:List Blk)(n:Nat):Prop:=r=.sl 1 (vals.map zD) .tight\/∃ N,r=.ms N 0 vals.length 1/\n<=N/\H[N]?=some (.cells (qp vals))
def vM (w:Nat)(o:Option Nat):List Nat:=match o with
 | none=>List.range (2 ^ w)
 | some x=>[x]
def ValQ (vals:List Nat)(H:List Blk)(r:AV)(U':St):Prop:=KpL [] H U'.H/\qin r vals U'.H H.length
theorem Vu {s:Spc}{H:List Blk}(h:SpOk s H){m:AV}{fx:Nat->Option Nat}(hf:qfo m fx H){i:Nat}{v:Var}(hv:s.p.vars[i]?=some v)(hw:0<=v.width/\v.width<=8)(T:List (Option Nat)) :
 qf Tryz.prog GG 168 [.ptr s.S 0,.int .i64 i,m] ⟨H,T⟩ (ValQ (vM v.width.toNat (fx i)) H):=by
 refine qf.k qe Tryz.func168 rfl (by kernel_rfl) ?_;have hS:=h.c;have hil:=(qoQ.1 hv).1;have hlk:=hf.look i T;simp only[spE,qG,qpd,qpa]at hS
 cases hfx:fx i with
 | some x=>
  rw[hfx]at hlk;have hq:ValQ (vM v.width.toNat (some x)) H (.sl 1 [[.int .i64 (x:Int)]] .tight) ⟨H,T⟩:=⟨KpL.refl,.inl rfl⟩;simp[-getElem?_pos,hlk,qj,qs];exact hq
 | none=>
  rw[hfx]at hlk;have hs1:=v7 hw.1 (by omega);have hwn:¬ v.width<0:=by omega
  have hp8:2 ^ v.width.toNat<=2 ^ 8:=qpl (by omega) (by omega);have hp0:0<2 ^ v.width.toNat:=qq6 _;have hvs:vM v.width.toNat none=List.range (2 ^ v.width.toNat):=rfl;rw[hvs];obtain⟨N,hN⟩:∃ N,N=2 ^ v.width.toNat:=⟨_,rfl⟩;rw[<- hN]at hs1 hp8 hp0 ⊢;have hN0:¬ (N:Int)=0:=by omega
  have hN0':N≠0:=by omega
  have hN1:(N:Int)<=549755813888:=by omega
  simp[-getElem?_pos,hlk,hS,hv,hil,hwn,IntKind.bits,hs1,qy,hN0,hN0',hN1];have hz:List.replicate N (AV.int .i64 0)=qp (List.replicate N 0):=by simp[qp]
  rw[hz];refine yo N (fun k ev U=>ev 9=.ms H.length 0 N 1/\ev 32=.int .i64 (N:Int)/\ev 33=.int .i64 (k:Int)/\KpL [] H U.H/\∃ W,W.length=N/\U.H[H.length]?=some (.cells (qp W))/\∀ j,j<k->W[j]?=some j) ?_ ?_ ?_
  . exact⟨by simp,by simp,by simp,KpL.app,List.replicate N 0,by simp,lk0,fun j hj=>absurd hj (by omega)⟩
  . rintro k ev ⟨H1,T1⟩ R hR hk ⟨e9,e32,e33,hkp,W,hWl,bW,hWj⟩;dsimp only at hkp bW;have hk':(k:Int)<N:=(by omega);have hk1:k+1<=N:=hk;have hwk:=wr (n:=(k:Int)+1) (by omega) (by omega);have hl1:=(qoQ.1 bW).1;simp[-getElem?_pos,e9,e32,e33,hk',hk1,bW,hWl,yC,hwk];refine hR _ _ ⟨by simp[e9],by simp[e32],by simp,hkp.setF (qo0 _),W.set k k,by simp[hWl],qoX hl1,fun j hj=>?_⟩;by_cases hjk:j=k
    . subst hjk;rw[qoX (by omega)]
    . rw[qoT (Ne.symm hjk)];exact hWj j (by omega)
  . rintro ev ⟨H1,T1⟩ ⟨e9,e32,e33,hkp,W,hWl,bW,hWj⟩;dsimp only at hkp bW;have hWr:W=List.range N:=by
     apply qpJ;intro j;by_cases hj:j<N
     . rw[hWj j hj,qrj hj]
     . rw[qph (by omega),qph (by simp;omega)]
    rw[hWr]at bW;simp[-getElem?_pos,e9,e32,e33];exact⟨hkp,.inr ⟨H.length,by simp,qo0 _,bW⟩⟩
def jG (p:Problem)(i:Nat):Nat:=(zE p.vars i).toNat
def Za (lv:List Int)(i:Nat):Nat:=(lv.getD i 0).toNat
def wtP (p:Problem)(i v:Nat):Nat:=wtO ((jx p.vars.length p.dists).getD i none) (v:Int)
theorem qfr (p:Problem)(i v:Nat):wtP p i v<=lim:=wtO_le _ _
def Vf (p:Problem)(lv:List Int)(d:List Nd)(fx:Nat->Option Nat):List Nat->Nat->Nat
 | [],node=>if node=0 then 0 else 1
 | i::r,node=>if node=0 then 0 else (vM (jG p i) (fx i)).foldl (fun s v=>sat (s+sat (wtP p i v*Vf p lv d fx r (wz d (Za lv i) (jG p i) v node (jG p i))))) 0
theorem yf {α:Type}(f:α->Nat):∀ (l:List α) (s:Nat),s<=lim->l.foldl (fun s v=>sat (s+f v)) s<=lim
 | [],s,h=>h
 | a::r,s,h=>yf f r _ (Kp _)
theorem qfX (p:Problem)(lv:List Int)(d:List Nd)(fx:Nat->Option Nat)(g:List Nat)(node:Nat):Vf p lv d fx g node<=lim:=by
 cases g with
 | nil=>unfold Vf lim;split<;>omega
 | cons i r=>
  unfold Vf;split
  . exact qqo _
  . exact yf _ _ _ (qqo _)
abbrev Pt:=(Nat×Nat)×Nat×Nat
def ptE (q:Pt):AV×AV×Nat:=(.agg [.int .i64 (q.1.1:Int),.int .i64 (q.1.2:Int)],.int .i64 (q.2.1:Int),q.2.2)
theorem qbF {x:Nat×Nat}:∀ (E:List Pt) (k:Nat),(jt (.agg [.int .i64 (x.1:Int),.int .i64 (x.2:Int)]) (E.map ptE) k=some none/\∀ q∈E,q.1≠x)\/∃ j q,E[j]?=some q/\q.1=x/\jt (.agg [.int .i64 (x.1:Int),.int .i64 (x.2:Int)]) (E.map ptE) k=some (some (k+j,.int .i64 (q.2.1:Int)))
 | [],k=>.inl ⟨rfl,by simp⟩
 | e::E,k=>by
  have hk:vP (.agg [.int .i64 (x.1:Int),.int .i64 (x.2:Int)]) (.agg [.int .i64 (e.1.1:Int),.int .i64 (e.1.2:Int)])=some (decide (x=e.1)):=by
   obtain⟨a,b⟩:=x;obtain⟨⟨c,d⟩,r⟩:=e;simp only[vP,zY,yR,if_true];congr 1;rw[qpF];simp;omega
  by_cases h:x=e.1
  . right;have hd:decide (x=e.1)=true:=(by simpa using h);rw[hd]at hk;exact⟨0,e,rfl,h.symm,by simp[jt,ptE,hk]⟩
  . have hd:decide (x=e.1)=false:=(by simpa using h);rw[hd]at hk;rcases qbF (x:=x) E (k+1) with ⟨h1,h2⟩|⟨j,q,h1,h2,h3⟩
    . left;refine⟨by simp only[qo2,ptE,jt,hk];exact h1,fun q hq=>?_⟩;rcases qpj.1 hq with rfl|hq
      . exact fun e=>h e.symm
      . exact h2 q hq
    . right;refine⟨j+1,q,by simpa using h1,h2,?_⟩;simp only[qo2,ptE,jt,hk];have:k+(j+1)=k+1+j:=by omega
      rw[this];exact h3
theorem fit_pt (a b:Int):zt (Dof Tryz.prog) 161 (.agg [.int .i64 a,.int .i64 b])=true:=by
 simp[zt,Yt,yw,qQ,zT,qqe]
def qiq (p:Problem)(lv:List Int)(d:List Nd)(fx:Nat->Option Nat)(g:List Nat)(K:Nat)(H:List Blk):Prop:=∃ (E:List Pt) (n:Nat),H[K]?=some (.map (E.map ptE) n)/\∀ q∈E,q.2.1=Vf p lv d fx (g.drop q.1.1) q.1.2
theorem qin.len {r:AV}{vals:List Nat}{H:List Blk}{n:Nat}(h:qin r vals H n)(U:St):Jn (Dof Tryz.prog) U 28 r=some (.int .i64 (vals.length:Nat)):=by
 rcases h with rfl|⟨N,rfl,_⟩<;>simp
theorem qin.at {r:AV}{vals:List Nat}{H:List Blk}{n:Nat}(h:qin r vals H n){j x:Nat}(hj:vals[j]?=some x):∃ a,zr (Dof Tryz.prog) 28 r (.int .i64 (j:Int))=some a/\∀ T,yB (Dof Tryz.prog) ⟨H,T⟩ 3 a=some (.int .i64 (x:Int)):=by
 have hl:=(qoQ.1 hj).1;rcases h with rfl|⟨N,rfl,_,hN⟩
 . exact⟨.rptr [.int .i64 (x:Int)],by simp[-getElem?_pos,hj,zD],fun T=>by simp⟩
 . have hl':(j:Int)<vals.length:=(by omega);have hl1:j+1<=vals.length:=hl;exact⟨.ptr N j,by simp[hl'],fun T=>by simp[-getElem?_pos,hN,hl1,zP hj]⟩
theorem qin.keep {r:AV}{vals:List Nat}{H H':List Blk}{n K:Nat}(h:qin r vals H n)(hk:KpL [K] H H')(hK:K<n):qin r vals H' n:=by
 rcases h with h|⟨N,h1,h2,h3⟩
 . exact .inl h
 . exact .inr ⟨N,h1,h2,hk.2 _ _ h3 (by simp;omega)⟩
def qlo (s:Spc)(g:List Nat):Prop:=∀ i∈g,∃ (v:Var) (l:Nat),s.p.vars[i]?=some v/\0<=v.width/\v.width<=8/\s.lv[i]?=some (l:Int)/\l<=20/\∀ w,(jx s.p.vars.length s.p.dists)[i]?=some (some w)->w≠[]/\w.length<=1000
def SumQ (s:Spc)(d:List Nd)(fx:Nat->Option Nat)(g:List Nat)(K at_ node:Nat)(H:List Blk)(r:AV)(U':St):Prop :=
 r=.int .i64 (Vf s.p s.lv d fx (g.drop at_) node:Nat)/\KpL [K] H U'.H/\qiq s.p s.lv d fx g K U'.H
def qc3:List (Nat×Sch×List Nat):=[(13,.step 0 [15,14] (.step 1 [15,14] (.step 2 [15,14] (.step 3 [15,14] (.step 4 [15,14,13,6,5] (.step 7 [15,14,13,12] (.step 8 [15,14,13,12,9] (.step 9 [15,14,13,12] (.step 10 [15,14,13,12] (.step 11 [15,14,13,12] (.fork (.cons 5 (.step 6 [15,14,13] (.step 12 [15,14,13] (.step 13 [15,14] (.step 14 [15] (.step 15 [] (.done)))))) (.cons 12 (.step 5 [15,14,13,6] (.step 6 [15,14,13] (.step 13 [15,14] (.step 14 [15] (.step 15 [] (.done)))))) (.nil))))))))))))),[12,14])]
theorem qfS {s:Spc}{d:List Nd}{tok:Tok}(hd:DagOk d)(hdv:s.dv=.sl 3 (d.map qt) tok){fx:Nat->Option Nat}(hfx:∀ i x,fx i=some x->x<65536){m:AV}{g:List Nat}(hg:qlo s g)(hgl:g.length<=1000){K:Nat}(hSK:s.S≠K)(hLK:s.L≠K)(hLLK:s.LL≠K)(hmK:∀ F,m=.map F->F≠K) :
 ∀ (k at_:Nat),at_+k=g.length->∀ (node:Nat) (H:List Blk) (T:List (Option Nat)),node<d.length->SpOk s H->qfo m fx H->qiq s.p s.lv d fx g K H ->
  qf Tryz.prog GG 109 [.ptr s.S 0,.sl 1 (g.map zD) .none,m,.map K,.agg [.int .i64 at_,.int .i64 node]] ⟨H,T⟩ (SumQ s d fx g K at_ node H):=by
 intro k
 induction k with
 | zero=>
  intro at_ hat node H T hn hs hf hmem;refine qf.kO ⟨false,qc3,[],[]⟩ qe Tryz.func109 rfl (by kernel_rfl) ?_;have hd0:g.drop at_=[]:=qpp (by omega);have hat':(at_:Int)=g.length:=by omega
  obtain⟨E,n,hE,hEv⟩:=hmem;have fin:∀ u,SumQ s d fx g K at_ node H (.int .i64 (if node=0 then 0 else 1:Nat)) ⟨H++u,T⟩:=fun u=>⟨by rw[hd0];rfl,KpL.app,E,n,qa hE _,hEv⟩
  by_cases hn0:node=0
  . subst hn0;simp[-getElem?_pos];exact fin _
  . have hn0':¬ (node:Int)=0:=(by omega);rw[if_neg hn0]at fin;simp[-getElem?_pos,hn0,hat'];exact fin _
 | succ k ih=>
  intro at_ hat node H T hn hs hf hmem;refine qf.kO ⟨false,qc3,[],[]⟩ qe Tryz.func109 rfl (by kernel_rfl) ?_;have hal:at_<g.length:=by omega
  obtain⟨i,hi⟩:∃ i,g[at_]?=some i:=⟨_,qoS hal⟩;obtain⟨v,l,hv,hw0,hw8,hl,hl20,hwn⟩:=hg i (qoR hi);have hdr:g.drop at_=i::g.drop (at_+1):=by
   obtain⟨h1,h2⟩:=qoQ.1 hi;rw[qo9 h1,h2]
  have hat':¬ (at_:Int)=g.length:=by omega
  have hat2:(at_:Int)<g.length:=by omega
  obtain⟨E,n,hE,hEv⟩:=hmem;have hKl:=(qoQ.1 hE).1;by_cases hn0:node=0
  . subst hn0;have fin:∀ u,SumQ s d fx g K at_ 0 H (.int .i64 0) ⟨H++u,T⟩:=fun u=>⟨by rw[hdr];rfl,KpL.app,E,n,qa hE _,hEv⟩
    simp[-getElem?_pos];exact fin _
  have hn0':¬ (node:Int)=0:=by omega
  have hfit:=fit_pt at_ node;rcases qbF (x:=(at_,node)) E 0 with ⟨hfind,hno⟩|⟨j,q,hj1,hj2,hfind⟩
  case inr=>
   have hqv:=hEv q (qoR hj1);rw[hj2]at hqv;have fin:∀ u,SumQ s d fx g K at_ node H (.int .i64 (q.2.1:Nat)) ⟨H++u,T⟩:=fun u=>⟨by rw[hqv],KpL.app,E,n,qa hE _,hEv⟩
   have hlk:∀ (u:List Blk) (T:List (Option Nat)),zm (Dof Tryz.prog) ⟨H++u,T⟩ 159 (.map K) (.agg [.int .i64 at_,.int .i64 node]) true=some (.tup [.int .i64 (q.2.1:Int),.bool true]):=fun u T=>by
    simp only[zm,D159,hfit,if_true];simp[qa hE,hfind]
   simp[-getElem?_pos,hn0,hat',hlk];exact fin _
  have hlk:∀ (u:List Blk) (T:List (Option Nat)),zm (Dof Tryz.prog) ⟨H++u,T⟩ 159 (.map K) (.agg [.int .i64 at_,.int .i64 node]) true=some (.tup [.int .i64 0,.bool false]):=fun u T=>by
   simp only[zm,D159,hfit,if_true];simp[qa hE,hfind,K4]
  clear hfind hno;have hs0:=hs.keep (H':=H++[.cells [.int .i64 at_,.int .i64 node]]) (bs:=[]) KpL.app (by simp) (by simp) (by simp);have hf0:=hf.keep (H':=H++[.cells [.int .i64 at_,.int .i64 node]]) (bs:=[]) KpL.app (by simp);have hval:=Vu hs0 hf0 hv ⟨hw0,hw8⟩ T;obtain⟨vals,hvals⟩:∃ vals,vals=vM v.width.toNat (fx i):=⟨_,rfl⟩;rw[<- hvals]at hval;have hwid:jG s.p i=v.width.toNat:=by simp[jG,zE,hv]
  have hlvl:Za s.lv i=l:=by simp[Za,qo5,hl]
  have hvb:∀ x∈vals,x<65536:=fun x hx=>by
   rw[hvals]at hx
   cases hfi:fx i with
   | none=>
    rw[hfi]at hx;have:=qpZ.1 hx;have:2 ^ v.width.toNat<=2 ^ 8:=qpl (by omega) (by omega);omega
   | some y=>
    rw[hfi]at hx;have:x=y:=by simpa[vM] using hx
    rw[this];exact hfx i y hfi
  have hvl:vals.length<=256:=by
   rw[hvals]
   cases hfi:fx i with
   | none=>simp only[vM,qrX];exact qpL (qpl (by omega) (show v.width.toNat<=8 by omega)) (by decide)
   | some y=>simp[vM]
  have hsum:Vf s.p s.lv d fx (g.drop at_) node=vals.foldl (fun a x=>sat (a+sat (wtP s.p i x*Vf s.p s.lv d fx (g.drop (at_+1)) (wz d l v.width.toNat x node v.width.toNat)))) 0:=by
   rw[hdr,hvals];simp only[Vf,if_neg hn0,hwid,hlvl]
  obtain⟨f,hff⟩:∃ f:Nat->Nat,∀ x,f x=sat (wtP s.p i x*Vf s.p s.lv d fx (g.drop (at_+1)) (wz d l v.width.toNat x node v.width.toNat)):=⟨_,fun _=>rfl⟩;have hfle:∀ x,f x<=lim:=fun x=>by rw[hff];exact Kp _
  simp only[<- hff]at hsum;simp[-getElem?_pos,hn0,hat',hlk,hi,zD];refine qc.acall hval ?_;rintro r ⟨H1,T1⟩ ⟨hk1,hrow⟩;dsimp only at hk1 hrow;have bX:H1[H.length]?=some (.cells [.int .i64 at_,.int .i64 node]):=hk1.2 _ _ lk0 (by simp);have hlen:=hrow.len;have hrow:qin r vals H1 H.length:=hrow.imp id fun ⟨N,h1,h2,h3⟩=>⟨N,h1,by simp at h2;omega,h3⟩
  have hkH1:KpL [K] H H1:=(KpL.app.trans hk1).sub (by simp);have hmem1:qiq s.p s.lv d fx g K H1:=⟨E,n,hk1.2 _ _ (qa hE _) (by simp),hEv⟩;simp[-getElem?_pos,-Jn,hlen];refine qX.listR vals (fun dn ev U=>ev 0=.ptr s.S 0/\ev 1=.sl 1 (g.map zD) .none/\ev 2=m/\ev 3=.map K/\ev 9=.ptr H.length 0/\ev 13=.int .i64 (dn.foldl (fun a x=>sat (a+f x)) 0:Nat)/\ev 14=.int .i64 (i:Int)/\ev 44=r/\ev 45=.int .i64 vals.length/\ev 46=.int .i64 dn.length/\KpL [K] H U.H/\qiq s.p s.lv d fx g K U.H/\qin r vals U.H H.length/\U.H[H.length]?=some (.cells [.int .i64 at_,.int .i64 node])) ?_ ?_ ?_
  . exact⟨by simp,by simp,by simp,by simp,by simp,by simp,by simp,by simp,by simp,by simp,hkH1,hmem1,hrow,bX⟩
  . rintro dn x rest ev ⟨H2,T2⟩ R hR hdl hx hlt ⟨e0,e1,e2,e3,e9,e13,e14,e44,e45,e46,hkp,hme,hro,bX2⟩;dsimp only at hkp hme hro bX2;obtain⟨a,ha1,ha2⟩:=hro.at hx;have hdw:=wr (n:=(dn.length:Int)+1) (by omega) (by omega);have hlt':(dn.length:Int)<vals.length:=(by omega);have hxb:=hvb x (qoR hx);have hs2:=hs.keep hkp (by simpa using hSK) (by simpa using hLK) (by simpa using hLLK);have hf2:=hf.keep hkp (fun F hF=>by simpa using hmK F hF);have hatw:=wr (n:=(at_:Int)+1) (by omega) (by omega);have hdes:=KR hs2 hd hdv hv hl ⟨hw0,hw8⟩ hl20 hn (val:=x) (by omega) T2;have hnl:=Jv hd hn l v.width.toNat x v.width.toNat;have hffx:=hff x;have hfx1:=hfle x;generalize hnd:wz d l v.width.toNat x node v.width.toNat=nd at *;simp[-getElem?_pos,-zr,-yB,e44,e45,e46,hlt',ha1,ha2];rw[qH rfl];simp[-getElem?_pos,qL,e0,e1,e2,e3,e9,e14,bX2,hatw];refine⟨qc.acall hdes ?_,qc.acall hdes ?_⟩
    all_goals
     rintro w ⟨H3,T3⟩ ⟨rfl,hk3⟩;dsimp only at hk3;have hk3':KpL [K] H2 H3:=hk3.sub (by simp);have bX3:=hk3.2 _ _ bX2 (by simp);have hs3:=hs2.keep hk3' (by simpa using hSK) (by simpa using hLK) (by simpa using hLLK);have hf3:=hf2.keep hk3' (fun F hF=>by simpa using hmK F hF);have hme3:qiq s.p s.lv d fx g K H3:=by
      obtain⟨E3,n3,h1,h2⟩:=hme;exact⟨E3,n3,hk3.2 _ _ h1 (by simp),h2⟩
     have hih:=ih (at_+1) (by omega) nd H3 T3 hnl hs3 hf3 hme3;simp only[qsa,qsb]at hih;simp[-getElem?_pos,qL,bX3,hatw,zn,zU,qD];refine qc.acall hih ?_;rintro w ⟨H4,T4⟩ ⟨rfl,hk4,hme4⟩;dsimp only at hk4 hme4;have hs4:=hs3.keep hk4 (by simpa using hSK) (by simpa using hLK) (by simpa using hLLK);have bX4:=hk4.2 _ _ bX3 (by simp;omega);have hS4:=hs4.c;simp only[spE,qG,qpd,qpa]at hS4;obtain⟨o,ho⟩:∃ o,(jx s.p.vars.length s.p.dists)[i]?=some o:=⟨_,qoS (by rw[yH];exact (qoQ.1 hv).1)⟩;have hwt:wtP s.p i x=wtO o (x:Int):=(by simp[wtP,qo5,ho]);have hweigh:=K6 s.p hs4.w ho (fun w hw=>hwn w (by rw[ho,hw])) (x:Int) T4;rw[<- hwt]at hweigh;have hwle:=qfr s.p i x;have hsle:=qfX s.p s.lv d fx (g.drop (at_+1)) nd;generalize Vf s.p s.lv d fx (g.drop (at_+1)) nd=sd at *;generalize wtP s.p i x=wx at *;have hacc:dn.foldl (fun a x=>sat (a+f x)) 0<=lim:=yf f dn 0 (qqo _);have hsnoc:(dn++[x]).foldl (fun a x=>sat (a+f x)) 0=sat (dn.foldl (fun a x=>sat (a+f x)) 0+f x):=(by rw[qp5];rfl);generalize dn.foldl (fun a x=>sat (a+f x)) 0=acc at *;have ht:=Wf wx sd hwle hsle;rw[<- hffx]at ht;have hp:=qgj acc (f x) hacc hfx1;simp[-getElem?_pos,qL,e0,e13,e14,hS4];refine qc.acall hweigh ?_;rintro w U ⟨rfl,rfl⟩;simp[-getElem?_pos];refine qc.call ht (by simp) ?_;simp[-getElem?_pos];refine qc.call hp (by simp) ?_;simp[-getElem?_pos,e46,hdw];exact hR _ _ ⟨by simp[e0],by simp[e1],by simp[e2],by simp[e3],by simp[e9],by simp[hsnoc],by simp[e14],by simp[e44],by simp[e45],by simp,(hkp.trans hk3').trans hk4,hme4,(hro.keep hk3' hKl).keep hk4 hKl,bX4⟩
  . rintro ev ⟨H2,T2⟩ ⟨e0,e1,e2,e3,e9,e13,e14,e44,e45,e46,hkp,hme,hro,bX2⟩;dsimp only at hkp hme hro bX2;rw[<- hsum]at e13;obtain⟨E2,n2,hE2,hEv2⟩:=hme;have hK2:=(qoQ.1 hE2).1;generalize hsd:Vf s.p s.lv d fx (g.drop at_) node=sd at *;obtain⟨E3,n3,hup,hEv3⟩:∃ (E3:List Pt) (n3:Nat),qU (Dof Tryz.prog) ⟨H2,T2⟩ 159 (.map K) (.agg [.int .i64 at_,.int .i64 node]) (.int .i64 (sd:Nat))=some ⟨H2.set K (.map (E3.map ptE) n3),T2⟩/\∀ q∈E3,q.2.1=Vf s.p s.lv d fx (g.drop q.1.1) q.1.2:=by
     rcases qbF (x:=(at_,node)) E2 0 with ⟨hfind,_⟩|⟨j,q,hj1,hj2,hfind⟩
     . refine⟨E2++[((at_,node),sd,n2)],n2+1,?_,fun q hq=>?_⟩
       . simp only[qU,D159,hfit,if_true];simp[hE2,hfind,ptE]
       . rcases qpg.1 hq with hq|hq
         . exact hEv2 q hq
         . rw[qpt]at hq;rw[hq];exact hsd.symm
     . refine⟨E2.modify j fun q=>((at_,node),sd,q.2.2),n2,?_,fun q hq=>?_⟩
       . simp only[qU,D159,hfit,if_true];simp[hE2,hfind];congr 2;apply qpJ;intro k;simp only[qqq,qpe];by_cases hkj:j=k
         . subst hkj;cases E2[j]?<;>simp[ptE]
         . cases E2[k]?<;>simp[hkj]
       . obtain⟨k,hk⟩:=qpx hq;rw[qqq]at hk;by_cases hkj:j=k
         . subst hkj;rw[hj1]at hk;simp at hk;rw[<- hk];exact hsd.symm
         . cases he:E2[k]? with
           | none=>rw[he]at hk;simp at hk
           | some y=>
            rw[he]at hk;simp[hkj]at hk;rw[<- hk];exact hEv2 y (qoR he)
    simp[-getElem?_pos,e3,e9,e13,e45,e46,bX2,hup];exact⟨by rw[hsd],hkp.trans (KpL.set (by simp)),E3,n3,qoX hK2,hEv3⟩
def eqE (s:Str)(n:Int):Ex:=.mk 15 0 [] [wL s,jL n]
theorem qbH (s:Str)(n:Int):pre (eqE s n)=[eqE s n,wL s,jL n]:=by
 rw[jn];show eqE s n::kh [wL s,jL n]=_;rw[jZ,qcX,jZ,Qz];rfl
theorem qmc {s:Str}(hs:yL s=true){n:Int}(h0:0<=n)(h1:n<=65535):EOk s 2 3 (eqE s n):=by
 refine⟨fun x hx=>?_,?_,by rw[qbH];simp⟩
 . rw[qbH]at hx;simp only[qpj,qqb,or_false]at hx;rcases hx with rfl|rfl|rfl
   . exact⟨by simp[qo,eqE,qi,zo,Ex.op,Ex.n,Ex.name,Ex.args],by simp[eqE,Ex.op],by simp[eqE,Ex.op],by simp[eqE,Ex.op]⟩
   . exact⟨qfG hs,by simp[wL,Ex.op],by simp[wL,Ex.op],fun _=>rfl⟩
   . exact⟨Ww h0 h1,by simp[jL,Ex.op],by simp[jL,Ex.op],by simp[jL,Ex.op]⟩
 . rw[kl];simp[eqE,wL,jL,kl]
theorem qdI {p:Problem}(h:VQ p)(hv:qk p=0){i:Nat}{v:Var}(hi:p.vars[i]?=some v){n:Int}(h0:0<=n)(h1:n<=65535):zc p.vars (eqE v.name n)=0/\JA (eqE v.name n):=by
 have hm:=qoR hi;have hve:=ze (js hv v hm);have ho:=qmc hve.1 h0 h1;exact⟨ho.valid (by omega) (by omega) (by unfold ve;rw[qpk];exact⟨v,hm,by simp⟩),ho.tame (h.names v hm) (by omega) (by omega)⟩
theorem qaK {s:Spc}{H:List Blk}(h:SpOk s H){i:Nat}{v:Var}(hv:s.p.vars[i]?=some v)(n:Int)(T:List (Option Nat)) :
 qf Tryz.prog GG 111 [.ptr s.S 0,.int .i64 i,.int .i64 n] ⟨H,T⟩ (fun r U'=>r=.agg (qq (eqE v.name n))/\KpL [] H U'.H):=by
 refine qf.up (qf.k qe Tryz.func111 rfl (by kernel_rfl) ?_);have hS:=h.c;have hil:=(qoQ.1 hv).1;simp only[spE,qG,qpd,qpa]at hS;simp[-getElem?_pos,qa hS,hS,hv,hil,zn,zU,qD,qj,qs];refine⟨_,?_,rfl,KpL.app⟩;simp[eqE,qd,wL,jL,Leq,zu,jV]
theorem qhO (R:List Ex)(tok:Tok)(h:R≠[]\/tok.known=true):Pure Tryz.prog GG 110 [.sl 4 (R.map qq) tok] (.sl 4 (R.map qq) .tight):=by
 refine Pure.kO o0 true qe Tryz.func110 rfl (by kernel_rfl) ?_;have hs:=qgU (en:=qq) (sz:=4) (R:=R) (tok:=tok) (n:=(R.length:Int)) rfl h;simp[-getElem?_pos,hs];rw[qV (by simp)];exact⟨by simp,Leq.refl _⟩
def Vh (vs:List Var):List (Str×AV×Nat):=vs.zipIdx.map fun q=>(q.1.name,.bool true,q.2)
theorem qgA {vs:List Var}{i:Nat}{v:Var}(hv:vs[i]?=some v):Vh (vs.take (i+1))=Vh (vs.take i)++[(v.name,.bool true,i)]:=by
 have hl:=(qoQ.1 hv).1;unfold Vh;rw[qpn,hv];simp[qru,qqH (qso hl)]
theorem qgB {vs:List Var}{j:Nat}{q:Str×AV×Nat}(h:(Vh vs)[j]?=some q):∃ v,vs[j]?=some v/\q=(v.name,.bool true,j):=by
 unfold Vh at h;rw[qpe,qqV]at h
 cases hv:vs[j]? with
 | none=>rw[hv]at h;simp at h
 | some v=>rw[hv]at h;simp at h;exact⟨v,rfl,h.symm⟩
theorem qny {vs:List Var}(hn:(vs.map (·.name)).Nodup){i:Nat}{v:Var}(hv:vs[i]?=some v)(k:Nat):jt (.str v.name) ((Vh (vs.take i)).map ZH) k=some none:=by
 have hl:=(qoQ.1 hv).1;rcases Qp (s:=v.name) (Vh (vs.take i)) k with ⟨h1,_⟩|⟨j,q,h1,h2,_⟩
 . exact h1
 . exfalso;obtain⟨w,hw,rfl⟩:=qgB h1;rw[qpB]at hw;split at hw
   . rename_i hj;obtain⟨hj1,hj2⟩:=qoQ.1 hw;obtain⟨_,hi2⟩:=qoQ.1 hv;have hp:=qqC.1 hn;have h2:w.name=v.name:=h2;exact hp j i (by simpa using hj1) (by simpa using hl) hj (by rw[qqc,qqc,hj2,hi2,h2])
   . cases hw
theorem qnx {vs:List Var}{v:Var}(hv:v∈vs)(k:Nat):∃ j,jt (.str v.name) ((Vh vs).map ZH) k=some (some (j,.bool true)):=by
 rcases Qp (s:=v.name) (Vh vs) k with ⟨_,h2⟩|⟨j,q,h1,h2,h3⟩
 . exfalso;obtain⟨i,hi⟩:=qpx hv;have hm:(v.name,AV.bool true,i)∈Vh vs:=qpi.2 ⟨(v,i),qoR (i:=i) (by rw[qqV,hi];simp),rfl⟩;exact h2 _ hm rfl
 . obtain⟨w,_,rfl⟩:=qgB h1;exact⟨k+j,h3⟩
theorem Yg {vs:List Var}{e:Ex}(hk:zc vs e=0)(ht:JA e):zf e=0/\zC [3,24] e=[]/\(∀ s∈zC [2] e,∃ v∈vs,v.name=s)/\(zC [2] e).length<=100000:=by
 have he:zf e=0/\ZW e=false/\Qc vs e=false:=by
  unfold zc at hk;split at hk
  . rename_i h;exact absurd hk h
  . rename_i h;split at hk
    . cases hk
    . split at hk
      . cases hk
      . rename_i h2 h3;exact⟨qpW.1 h,by simpa using h2,by simpa using h3⟩
 refine⟨he.1,?_,fun s hs=>?_,Yd ht.2.2⟩
 . have:=vJ (e:=e);rw[he.2.1]at this
   cases hl:zC [3,24] e with
   | nil=>rfl
   | cons a r=>rw[hl]at this;simp at this
 . have:=vB (l:=vs) (e:=e);rw[he.2.2,qqd]at this;have h1:=this s hs;simp only[qp4,Bool.not_eq_false,ve,qpk]at h1;obtain⟨v,hv,hvn⟩:=h1;exact⟨v,hv,by simpa using hvn⟩
theorem qkZ (p:Problem)(h:VQ p)(hv:qk p=0)(l:List Ex)(hf:l.length<=1000000)(hx:∀ e∈l,zc p.vars e=0/\JA e):Pure Tryz.prog GG 222 [.agg (qG p),.sl 4 (l.map qq) .none] (.int .i64 0):=by
 refine Pure.k qe Tryz.func222 rfl (by kernel_rfl) ?_;have hval:=yh p h;rw[hv]at hval;have hnd:=yM hv;have hvl:=h.vars;simp only[qG]at hval;simp[-getElem?_pos];refine qc.call hval (by simp) ?_;simp[-getElem?_pos];refine qX.listR l (fun d ev U=>ev 1=.sl 4 (l.map qq) .none/\ev 2=.ptr 0 0/\ev 17=.sl 4 (l.map qq) .none/\ev 18=.int .i64 l.length/\ev 19=.int .i64 d.length/\∃ u T,U=⟨.cells (qG p)::u,T⟩) ?_ ?_ ?_
 . exact⟨by simp,by simp,by simp,by simp,by simp,_,_,rfl⟩
 . rintro d e rest ev U R hR hd hxe hlt ⟨e1,e2,e17,e18,e19,u,T,rfl⟩;have hdw:=wr (n:=(d.length:Int)+1) (by omega) (by omega);have hlt':(d.length:Int)<l.length:=(by omega);obtain⟨hk,ht⟩:=hx e (qoR hxe);have hev:=JI e ht.1 (by have:=ht.2.1;omega);rw[(Yg hk ht).1]at hev;have henc:=qd e;rw[henc]at hev;simp[-getElem?_pos,e17,e18,e19,hlt',hxe,henc];refine qc.call hev (by simp) ?_;simp[-getElem?_pos,e19,hdw];exact hR _ _ ⟨by simp[e1],by simp[e2],by simp[e17],by simp[e18],by simp,_,_,rfl⟩
 . rintro ev U ⟨e1,e2,e17,e18,e19,u,T,rfl⟩;simp[-getElem?_pos,e2,e18,e19];refine qX.listR p.vars (fun d ev U=>ev 1=.sl 4 (l.map qq) .none/\ev 7=.map (u.length+1)/\ev 29=.sl 4 (p.vars.map qC) .none/\ev 30=.int .i64 p.vars.length/\ev 31=.int .i64 d.length/\U.H[u.length+1]?=some (.map ((Vh (p.vars.take d.length)).map ZH) d.length)) ?_ ?_ ?_
   . exact⟨by simp[e1],by simp,by simp,by simp,by simp,by simp[Vh]⟩
   . rintro d v rest ev ⟨H1,T1⟩ R hR hd hxv hlt ⟨e1,e7,e29,e30,e31,bM⟩;dsimp only at bM;have hdw:=wr (n:=(d.length:Int)+1) (by omega) (by omega);have hlt':(d.length:Int)<p.vars.length:=(by omega);have hfn:=qny hnd hxv 0;have ht1:=qgA hxv;have hMl:=(qoQ.1 bM).1;have hup:∀ (w:List Blk) (T:List (Option Nat)),qU (Dof Tryz.prog) ⟨H1++w,T⟩ 309 (.map (u.length+1)) (.str v.name) (.bool true)=some ⟨H1.set (u.length+1) (.map ((Vh (p.vars.take (d.length+1))).map ZH) (d.length+1))++w,T⟩:=fun w T=>by
      rw[ht1,qpP];generalize (Vh (p.vars.take d.length)).map ZH=E at *;simp[qU,qa bM,zt,hfn,yz bM,ZH]
     generalize hE2:(Vh (p.vars.take (d.length+1))).map ZH=E2 at *;simp[-getElem?_pos,e7,e29,e30,e31,hlt',hxv,hup,hdw];refine hR _ _ ⟨by simp[e1],by simp[e7],by simp[e29],by simp[e30],by simp,?_⟩;rw[qoV,qpo,hE2];exact qa (qoX hMl) _
   . rintro ev ⟨H1,T1⟩ ⟨e1,e7,e29,e30,e31,bM⟩;dsimp only at bM;rw[qqN]at bM;simp[-getElem?_pos,e1,e30,e31];refine qX.listR l (fun d ev U=>ev 7=.map (u.length+1)/\ev 39=.sl 4 (l.map qq) .none/\ev 40=.int .i64 l.length/\ev 41=.int .i64 d.length/\U.H[u.length+1]?=some (.map ((Vh p.vars).map ZH) p.vars.length)) ?_ ?_ ?_
     . exact⟨by simp[e7],by simp,by simp,by simp,bM⟩
     . rintro d e rest ev ⟨H2,T2⟩ R hR hd hxe hlt ⟨e7,e39,e40,e41,bM⟩;dsimp only at bM;have hdw:=wr (n:=(d.length:Int)+1) (by omega) (by omega);have hlt':(d.length:Int)<l.length:=(by omega);obtain⟨hk,ht⟩:=hx e (qoR hxe);obtain⟨_,h0,hall,hfit⟩:=Yg hk ht;have ha:=vo e ht.1 ht.2.2;have hna:=QD e ht.1 ht.2.2;have henc:=qd e;rw[h0]at ha;rw[henc]at ha hna;generalize zC [2] e=N at *;simp[-getElem?_pos,e39,e40,e41,hlt',hxe,henc];refine qc.call ha (by simp) ?_;simp[-getElem?_pos];refine qc.call hna (by simp) ?_;simp[-getElem?_pos];refine qX.listR N (fun dn ev U=>ev 7=.map (u.length+1)/\ev 39=.sl 4 (l.map qq) .none/\ev 40=.int .i64 l.length/\ev 41=.int .i64 d.length/\ev 50=.sl 1 (N.map z0) .none/\ev 51=.int .i64 N.length/\ev 52=.int .i64 dn.length/\U.H[u.length+1]?=some (.map ((Vh p.vars).map ZH) p.vars.length)) ?_ ?_ ?_
       . exact⟨by simp[e7],by simp[e39],by simp[e40],by simp[e41],by simp,by simp,by simp,qa bM _⟩
       . rintro dn s rest2 ev ⟨H3,T3⟩ R2 hR2 hd2 hxs hlt2 ⟨e7,e39,e40,e41,e50,e51,e52,bM⟩;dsimp only at bM;have hdw2:=wr (n:=(dn.length:Int)+1) (by omega) (by omega);have hlt2':(dn.length:Int)<N.length:=(by omega);obtain⟨v,hvm,hvn⟩:=hall s (qoR hxs);obtain⟨j,hj⟩:=qnx hvm 0;rw[hvn]at hj;have hlk:zm (Dof Tryz.prog) ⟨H3,T3⟩ 309 (.map (u.length+1)) (.str s) false=some (.bool true):=by
          generalize (Vh p.vars).map ZH=E at *;simp[zm,bM,zt,hj]
         simp[-getElem?_pos,e7,e50,e51,e52,hlt2',hxs,hlk,hdw2];exact hR2 _ _ ⟨by simp[e7],by simp[e39],by simp[e40],by simp[e41],by simp[e50],by simp[e51],by simp,bM⟩
       . rintro ev ⟨H3,T3⟩ ⟨e7,e39,e40,e41,e50,e51,e52,bM⟩;simp[-getElem?_pos,e41,e51,e52,hdw];exact hR _ _ ⟨by simp[e7],by simp[e39],by simp[e40],by simp,bM⟩
     . rintro ev ⟨H2,T2⟩ ⟨e7,e39,e40,e41,bM⟩;simp[-getElem?_pos,e40,e41]
theorem YR (p:Problem)(h:VQ p)(hv:qk p=0)(hv20:p.vars.length<=20)(hb:yW p.vars (qx p)<=18)(l:List Ex)(hf:l.length<=1000000)(hx:∀ e∈l,zc p.vars e=0/\JA e) :
 Pure Tryz.prog GG 170 [.agg (qG p),.sl 4 (l.map qq) .none] (.tup [.bool (yd p.vars l),.int .i64 0]):=by
 refine Pure.k qe Tryz.func170 rfl (by kernel_rfl) ?_;have hc:=qkZ p h hv l hf hx;have hs:=vY p l h hv20 hb (by show l.length<_;omega) (fun e he=>(hx e he).2);have hsb:ZZ p l=yd p.vars l:=by
  have:l.all (wo p.vars)=true:=qo1.2 fun e he=>decide_eq_true (hx e he).1
  unfold ZZ;rw[this];simp[hv]
 rw[hsb]at hs;simp only[qG]at hc hs;simp[-getElem?_pos];refine qc.call hc (by simp) ?_;simp[-getElem?_pos];refine qc.call hs (by simp) ?_;simp[-getElem?_pos]
def Z9 (p:Problem)(i:Nat):Str:=match p.vars[i]? with
 | some v=>v.name
 | none=>[]
noncomputable def qbv (p:Problem)(fx:Nat->Option Nat):List Nat->List Ex->Nat
 | [],R=>if yd p.vars R=true then 1 else 0
 | i::r,R=>if yd p.vars R=true then (vM (jG p i) (fx i)).foldl (fun s v=>sat (s+sat (wtP p i v*qbv p fx r (R++[eqE (Z9 p i) (v:Int)])))) 0 else 0
theorem qfU (p:Problem)(fx:Nat->Option Nat)(g:List Nat)(R:List Ex):qbv p fx g R<=lim:=by
 cases g with
 | nil=>unfold qbv lim;split<;>omega
 | cons i r=>
  unfold qbv;split
  . exact yf _ _ _ (qqo _)
  . exact qqo _
def ptok:Tok->Tok
 | .chain .. =>.none
 | t=>t
def qoM (R:List Ex)(tok:Tok):Prop:=R≠[]\/tok=.tight
theorem qoM.p {R:List Ex}{tok:Tok}(h:qoM R tok):R≠[]\/(ptok tok).known=true:=h.imp id fun e=>by rw[e];rfl
def qc2:List (Nat×Sch×List Nat):=[(10,.step 0 [10,9,8,7,1] (.step 1 [10,9,8,7] (.step 2 [10,9,8,7] (.step 3 [10,9,8,7,5,4] (.step 4 [10,9,8,7,5] (.step 5 [10,9,8,7] (.step 6 [10,9,8,7] (.step 7 [10,9,8] (.step 8 [10,9] (.step 9 [10] (.step 10 [] (.done))))))))))),[7]),(11,.step 0 [18,17] (.step 1 [18,17,16,15,9,4,3,2] (.step 2 [18,17,16,15,9,4,3] (.step 3 [18,17,16,15,9,4] (.step 4 [18,17,16,15,9] (.step 5 [18,17,16,15,9,7,6] (.step 6 [18,17,16,15,9,7] (.step 7 [18,17,16,15,9] (.step 8 [18,17,16,15,9] (.step 10 [18,17,16,15] (.step 11 [18,17,16,15,12] (.step 12 [18,17,16,15] (.step 13 [18,17,16,15] (.step 14 [18,17,16,15] (.step 9 [18,17,16,15] (.step 15 [18,17,16] (.step 16 [18,17] (.step 17 [18] (.step 18 [] (.done))))))))))))))))))),[9,15])]
theorem qiV {s:Spc}(hvq:VQ s.p)(hvp:qk s.p=0)(hv20:s.p.vars.length<=20)(hb:yW s.p.vars (qx s.p)<=18){fx:Nat->Option Nat}(hfx:∀ i x,fx i=some x->x<65536){m:AV} :
 ∀ (g:List Nat) (R:List Ex) (tok:Tok) (H:List Blk) (T:List (Option Nat)),qlo s g->(∀ e∈R,zc s.p.vars e=0/\JA e)->R.length+g.length<=100000->qoM R tok->SpOk s H->qfo m fx H ->
  qf Tryz.prog GG 112 [.ptr s.S 0,.sl 1 (g.map zD) .none,m,.sl 4 (R.map qq) tok] ⟨H,T⟩ (fun r U'=>r=.int .i64 (qbv s.p fx g R:Nat)/\KpL [] H U'.H):=by
 intro g
 induction g with
 | nil=>
  intro R tok H T hg hR hlen htok hs hf;refine qf.kO ⟨false,qc2,[],[]⟩ qe Tryz.func112 rfl (by kernel_rfl) ?_;have hsv:=YR s.p hvq hvp hv20 hb R (by omega) hR;have hS:=hs.c;simp only[spE,qG,qpd,qpa]at hS;simp only[qG]at hsv;have hst:qbv s.p fx [] R=if yd s.p.vars R=true then 1 else 0:=rfl
  rw[hst];simp[-getElem?_pos,hS];refine qc.pure hsv (by cases tok<;>simp) (by cases tok<;>simp[zu,Leq,jV.refl]) ?_
  cases hsol:yd s.p.vars R with
  | false=>
   simp[-getElem?_pos,unA];exact KpL.refl
  | true=>
   simp[-getElem?_pos,unA];exact KpL.refl
 | cons i r ih=>
  intro R tok H T hg hR hlen htok hs hf;refine qf.kO ⟨false,qc2,[],[]⟩ qe Tryz.func112 rfl (by kernel_rfl) ?_;have hsv:=YR s.p hvq hvp hv20 hb R (by omega) hR;have hS:=hs.c;simp only[spE,qG,qpd,qpa]at hS;simp only[qG]at hsv;obtain⟨v,l,hv,hw0,hw8,hl,hl20,hwn⟩:=hg i (by simp);have hgr:qlo s r:=fun j hj=>hg j (by simp[hj])
  have hwid:jG s.p i=v.width.toNat:=by simp[jG,zE,hv]
  have hnm:Z9 s.p i=v.name:=by simp[Z9,hv]
  have hval:=Vu hs hf hv ⟨hw0,hw8⟩ T;obtain⟨vals,hvals⟩:∃ vals,vals=vM v.width.toNat (fx i):=⟨_,rfl⟩;rw[<- hvals]at hval;have hvb:∀ x∈vals,x<65536:=fun x hx=>by
   rw[hvals]at hx
   cases hfi:fx i with
   | none=>
    rw[hfi]at hx;have:=qpZ.1 hx;have:2 ^ v.width.toNat<=2 ^ 8:=qpl (by omega) (by omega);omega
   | some y=>
    rw[hfi]at hx;have:x=y:=by simpa[vM] using hx
    rw[this];exact hfx i y hfi
  have hvl:vals.length<=256:=by
   rw[hvals]
   cases hfi:fx i with
   | none=>simp only[vM,qrX];exact qpL (qpl (by omega) (show v.width.toNat<=8 by omega)) (by decide)
   | some y=>simp[vM]
  have hsum:qbv s.p fx (i::r) R=if yd s.p.vars R=true then vals.foldl (fun a x=>sat (a+sat (wtP s.p i x*qbv s.p fx r (R++[eqE v.name (x:Int)])))) 0 else 0:=by
   rw[hvals,<- hwid,<- hnm];rfl
  obtain⟨f,hff⟩:∃ f:Nat->Nat,∀ x,f x=sat (wtP s.p i x*qbv s.p fx r (R++[eqE v.name (x:Int)])):=⟨_,fun _=>rfl⟩;have hfle:∀ x,f x<=lim:=fun x=>by rw[hff];exact Kp _
  simp only[<- hff]at hsum;rw[hsum];simp[-getElem?_pos,hS];refine qc.pure hsv (by cases tok<;>simp) (by cases tok<;>simp[zu,Leq,jV.refl]) ?_
  cases hsol:yd s.p.vars R with
  | false=>
   simp[-getElem?_pos,unA];exact KpL.refl
  | true=>
   have hrn:¬ (r.length:Int)+1=0:=(by omega);simp[-getElem?_pos,unA,zD,hrn];refine qc.acall hval ?_;rintro w ⟨H1,T1⟩ ⟨hk1,hrow⟩;dsimp only at hk1 hrow;have hlenr:=hrow.len;simp[-getElem?_pos,-Jn,hlenr];refine qX.listR vals (fun dn ev U=>ev 0=.ptr s.S 0/\ev 1=.sl 1 ((i::r).map zD) .none/\ev 2=m/\ev 3=.sl 4 (R.map qq) tok/\ev 11=.int .i64 (dn.foldl (fun a x=>sat (a+f x)) 0:Nat)/\ev 38=w/\ev 39=.int .i64 vals.length/\ev 40=.int .i64 dn.length/\KpL [] H U.H/\qin w vals U.H H.length) ?_ ?_ ?_
   . exact⟨by simp,by simp[zD],by simp,by simp,by simp,by simp,by simp,by simp,hk1,hrow⟩
   . rintro dn x rest ev ⟨H2,T2⟩ R2 hR2 hdl hx hlt ⟨e0,e1,e2,e3,e11,e38,e39,e40,hkp,hro⟩;dsimp only at hkp hro;obtain⟨a,ha1,ha2⟩:=hro.at hx;have hdw:=wr (n:=(dn.length:Int)+1) (by omega) (by omega);have hlt':(dn.length:Int)<vals.length:=(by omega);have hxb:=hvb x (qoR hx);have hs2:=hs.keep hkp (by simp) (by simp) (by simp);have hf2:=hf.keep hkp (by simp);have hcl:=qhO R (ptok tok) htok.p;have heq:=qaK hs2 hv (x:Int) T2;have hek:=qdI hvq hvp hv (n:=(x:Int)) (by omega) (by omega);have hae:=yE (eqE v.name (x:Int));have hl4:=zb (eqE v.name (x:Int));have hap:=fun H T=>WH (R:=R) (X:=eqE v.name (x:Int)) (H:=H) (T:=T) (by omega)
     have htk:(qq (eqE v.name (x:Int))).take 4=qq (eqE v.name (x:Int)):=qoZ (by rw[hl4];exact qo0 _);have hih:=fun n H T=>ih (R++[eqE v.name (x:Int)]) (.chain n 1) H T hgr (fun e he=>by
      rcases qpg.1 he with he|he
      . exact hR e he
      . rw[qpt]at he;rw[he];exact hek) (by rw[qoV];simp at hlen ⊢;omega) (.inl (by simp))
     have hffx:=hff x;have hfx1:=hfle x;have hsl1:(((i::r).map zD).take (r.length+1)).drop 1=r.map zD:=by
      rw[qoZ (by simp)];rfl
     generalize eqE v.name (x:Int)=X at *;simp[-getElem?_pos,-zr,-yB,e38,e39,e40,hlt',ha1,ha2];rw[qH rfl];simp[-getElem?_pos,-qN,qL,e3];refine qc.pure hcl (by cases tok<;>simp) (by cases tok<;>simp[ptok]) ?_;simp[-getElem?_pos,-qN,qL,e0,e1,zD];refine qc.acall heq ?_;rintro w3 ⟨H3,T3⟩ ⟨rfl,hk3⟩;dsimp only at hk3;have hs3:=hs2.keep hk3 (by simp) (by simp) (by simp);have hf3:=hf2.keep hk3 (by simp);have hS3:=hs3.c;simp only[spE,qG,qpd,qpa]at hS3;simp[-getElem?_pos,-qN,qL,hae,hl4,qj,qs,hap];rw[qH rfl];obtain⟨o,ho⟩:∃ o,(jx s.p.vars.length s.p.dists)[i]?=some o:=⟨_,qoS (by rw[yH];exact (qoQ.1 hv).1)⟩;have hwt:wtP s.p i x=wtO o (x:Int):=(by simp[wtP,qo5,ho]);have hweigh:=K6 s.p hs3.w ho (fun w hw=>hwn w (by rw[ho,hw])) (x:Int) (T3++[some 1]);rw[<- hwt]at hweigh;have hwle:=qfr s.p i x;have hsle:=qfU s.p fx r (R++[X]);have hih1:=hih T3.length H3 (T3++[some 1]) hs3 hf3;generalize qbv s.p fx r (R++[X])=sd at *;generalize wtP s.p i x=wx at *;have hacc:dn.foldl (fun a x=>sat (a+f x)) 0<=lim:=yf f dn 0 (qqo _);have hsnoc:(dn++[x]).foldl (fun a x=>sat (a+f x)) 0=sat (dn.foldl (fun a x=>sat (a+f x)) 0+f x):=(by rw[qp5];rfl);generalize dn.foldl (fun a x=>sat (a+f x)) 0=acc at *;have ht:=Wf wx sd hwle hsle;rw[<- hffx]at ht;have hp:=qgj acc (f x) hacc hfx1;have hpos:(0:Int)<(r.length:Int)+1:=(by omega);simp only[qpP,qo2,qpr]at hih1;have hsl2:zq (.sl 1 ([AV.int .i64 (i:Int)]::r.map zD) .none) (some (.int .i64 1)) none none=some (.sl 1 (r.map zD) .none):=by
      have h2:(1:Int)<=(r.length:Int)+1:=(by omega);simp[zq,zW,kf,zZ,h2,qoZ]
     simp[-getElem?_pos,qL,e0,e1,e2,e11,hS3,zD,hsl2];refine qc.acall hweigh ?_;rintro w4 U ⟨rfl,rfl⟩;simp[-getElem?_pos,qL];refine qc.acall hih1 ?_;rintro w5 ⟨H5,T5⟩ ⟨rfl,hk5⟩;dsimp only at hk5;simp[-getElem?_pos,qL];refine qc.call ht (by simp) ?_;simp[-getElem?_pos,qL];refine qc.call hp (by simp) ?_;simp[-getElem?_pos,qL,e40,hdw];exact hR2 _ _ ⟨by simp[e0],by simp[e1,zD],by simp[e2],by simp[e3],by simp[hsnoc],by simp[e38],by simp[e39],by simp,(hkp.trans hk3).trans hk5,((hro.imp id fun ⟨N,h1,h2,h3⟩=>⟨N,h1,h2,hk5.2 _ _ (hk3.2 _ _ h3 (by simp)) (by simp)⟩))⟩
   . rintro ev ⟨H2,T2⟩ ⟨e0,e1,e2,e3,e11,e38,e39,e40,hkp,hro⟩;simp[-getElem?_pos,e11,e39,e40];exact hkp
def NG (p:Problem):List (List Nat):=p.groups.map fun g=>g.map Int.toNat
def j7 (g:List Nat):List AV:=[.sl 1 (g.map zD) .none]
theorem KZ {p:Problem}(h:qk p=0):p.groups.map zF=(NG p).map j7:=by
 unfold NG;rw[qp9];refine qp3 fun g hg=>?_
 simp only[zF,j7,Function.comp,qp9];congr 2;refine qp3 fun i hi=>?_
 obtain⟨n,rfl,_⟩:=Jq h i (qpO.2 ⟨g,hg,hi⟩);simp[zD]
theorem Ql {p:Problem}(h:qk p=0):p.groups.flatten=(NG p).flatten.map fun n:Nat=>(n:Int):=by
 unfold NG;have:∀ (G:List (List Int)),(∀ i∈G.flatten,∃ n:Nat,i=n)->G.flatten=(G.map fun g=>g.map Int.toNat).flatten.map fun n:Nat=>(n:Int):=by
  intro G hG
  induction G with
  | nil=>rfl
  | cons g r ih=>
   rw[qpw,qo2,qpw,qpP,<- ih fun i hi=>hG i (by simp at hi ⊢;exact .inr hi),qp9];congr 1;have:g=g.map id:=by simp
   rw[this,qp9];refine qp3 fun i hi=>?_
   obtain⟨n,rfl⟩:=hG i (by simp[hi]);simp
 exact this _ fun i hi=>by obtain⟨n,h1,_⟩:=Jq h i hi;exact⟨n,h1⟩
def AsR (r:AV)(a:List Int)(H:List Blk):Prop:=(∃ tok,r=.sl 1 (a.map qu) tok)\/∃ N,r=.ms N 0 a.length 1/\H[N]?=some (.cells (zN a))
theorem AsR.at {r:AV}{a:List Int}{H:List Blk}(h:AsR r a H){j:Nat}{x:Int}(hj:a[j]?=some x):∃ u,zr (Dof Tryz.prog) 28 r (.int .i64 (j:Int))=some u/\∀ w T,yB (Dof Tryz.prog) ⟨H++w,T⟩ 3 u=some (.int .i64 x):=by
 have hl:=(qoQ.1 hj).1;rcases h with ⟨tok,rfl⟩|⟨N,rfl,hN⟩
 . exact⟨.rptr [.int .i64 x],by simp[-getElem?_pos,hj],fun w T=>by simp⟩
 . have hl':(j:Int)<a.length:=(by omega);have hl1:j+1<=a.length:=hl;have hto:(zN a)[j]?=some (.int .i64 x):=(by rw[WS,hj];rfl);have hdr:(zN a).drop j=.int .i64 x::(zN a).drop (j+1):=by
    obtain⟨h1,h2⟩:=qoQ.1 hto;rw[qo9 h1,h2]
   exact⟨.ptr N j,by simp[hl'],fun w T=>by simp[-getElem?_pos,qa hN,hdr,za,hl1]⟩
theorem AsR.at0 {r:AV}{a:List Int}{H:List Blk}(h:AsR r a H){j:Nat}{x:Int}(hj:a[j]?=some x):∃ u,zr (Dof Tryz.prog) 28 r (.int .i64 (j:Int))=some u/\∀ T,yB (Dof Tryz.prog) ⟨H,T⟩ 3 u=some (.int .i64 x):=by
 obtain⟨u,h1,h2⟩:=h.at hj;exact⟨u,h1,fun T=>by have:=h2 [] T;rwa[qpu]at this⟩
theorem AsR.len {r:AV}{a:List Int}{H:List Blk}(h:AsR r a H)(U:St):Jn (Dof Tryz.prog) U 28 r=some (.int .i64 (a.length:Nat)):=by
 rcases h with ⟨tok,rfl⟩|⟨N,rfl,_⟩<;>simp
theorem AsR.keep {r:AV}{a:List Int}{H H':List Blk}{bs:List Nat}(h:AsR r a H)(hk:KpL bs H H')(hb:∀ N o n z,r=.ms N o n z->N∉bs):AsR r a H':=by
 rcases h with h|⟨N,rfl,hN⟩
 . exact .inl h
 . exact .inr ⟨N,rfl,hk.2 _ _ hN (hb _ _ _ _ rfl)⟩
def aN (a:List Int)(i:Nat):Nat:=(a.getD i 0).toNat
def QB (s:Spc)(d:List Nd)(a:List Int)(l:List Nat):Nat:=l.foldl (fun node i=>wz d (Za s.lv i) (jG s.p i) (aN a i) node (jG s.p i)) s.root
def Ks (s:Spc)(a:List Int)(l:List Nat):List Ex:=s.R++l.map fun i=>eqE (Z9 s.p i) (aN a i:Int)
structure SpG (s:Spc)(a:List Int)(l:List Nat):Prop where
 gr:qlo s l
 val:∀ i∈l,∃ n:Nat,a[i]?=some (n:Int)/\n<65536
theorem qg1 {g:List Nat}{tok:Tok}{k i:Nat}(h:g[k]?=some i):zr (Dof Tryz.prog) 28 (.sl 1 (g.map zD) tok) (.int .i64 (k:Int))=some (.rptr [.int .i64 (i:Int)]):=by simp[-getElem?_pos,h,zD]
theorem qlS {U:St}{i:Nat}:yB (Dof Tryz.prog) U 3 (.rptr [.int .i64 (i:Int)])=some (.int .i64 (i:Int)):=by simp
def qc4:List (Nat×Sch×List Nat):=[(21,.step 0 [11,10,9,8,1] (.step 1 [11,10,9,8] (.step 2 [11,10,9,8] (.step 3 [11,10,9,8] (.step 4 [11,10,9,8,7,6] (.step 5 [11,10,9,8,7,6] (.step 6 [11,10,9,8,7] (.step 7 [11,10,9,8] (.step 8 [11,10,9] (.step 9 [11,10] (.step 10 [11] (.step 11 [] (.done)))))))))))),[8])]
theorem qlx {G:List (List Nat)}{gi:Nat}(h:gi<=G.length):zq (.sl 1 (G.map j7) .none) none (some (.int .i64 (gi:Int))) none=some (.sl 1 ((G.take gi).map j7) .none):=by
 simp[zq,zW,kf,zZ,h]
theorem qmT {s:Spc}(hvp:qk s.p=0)(hsm:s.small=true){d:List Nd}{tok:Tok}(hd:DagOk d)(hdv:s.dv=.sl 3 (d.map qt) tok)(hroot:s.root<d.length){fx:Nat->Option Nat}(hfx:∀ i x,fx i=some x->x<65536){m:AV}{gi:Nat}{g:List Nat}(hgi:(NG s.p)[gi]?=some g)(hgl:∀ g∈NG s.p,g.length<=1000)(hGl:(NG s.p).length<=1000)
 {r:AV} {a:List Int} {H:List Blk} (hg:qlo s g) (hpre:SpG s a ((NG s.p).take gi).flatten) (hs:SpOk s H) (hf:qfo m fx H) (ha:AsR r a H) (T:List (Option Nat)) :
 qf Tryz.prog GG 57 [.ptr s.S 0,.int .i64 gi,r,m] ⟨H,T⟩ (fun v U'=>v=.int .i64 (Vf s.p s.lv d fx g (QB s d a ((NG s.p).take gi).flatten):Nat)/\KpL [] H U'.H):=by
 refine qf.kO ⟨false,qc4,[],[]⟩ qe Tryz.func57 rfl (by kernel_rfl) ?_;have hS:=hs.c;have hgil:=(qoQ.1 hgi).1;have hgil':(gi:Int)<(NG s.p).length:=by omega
 have hG:=KZ hvp;simp only[spE,qG,qpd,qpa,hsm,hdv,hG]at hS;have hsl:=qlx (G:=NG s.p) (gi:=gi) (by omega);have htl:((NG s.p).take gi).length<=1000:=by rw[qps];omega
 have htm:∀ g∈(NG s.p).take gi,g.length<=1000:=fun g hg=>hgl g (qpR hg)
 obtain⟨PG,hPG⟩:∃ PG,PG=(NG s.p).take gi:=⟨_,rfl⟩;rw[<- hPG]at hsl htl htm hpre ⊢;simp[-getElem?_pos,hS,hgi,j7,hsl];have hgg:=hgl g (qoR hgi);refine qX.listR PG (fun dn ev U=>ev 0=.ptr s.S 0/\ev 2=r/\ev 3=m/\ev 9=.sl 1 (g.map zD) .none/\ev 10=.int .i64 (QB s d a dn.flatten:Nat)/\ev 42=.sl 1 (PG.map j7) .none/\ev 43=.int .i64 PG.length/\ev 44=.int .i64 dn.length/\QB s d a dn.flatten<d.length/\KpL [] H U.H) ?_ ?_ ?_
 . exact⟨by simp,by simp,by simp,by simp,by simp[QB],by simp,by simp,by simp,hroot,KpL.refl⟩
 . rintro dn g1 rest ev ⟨H1,T1⟩ R hR hdl hx hlt ⟨e0,e2,e3,e9,e10,e42,e43,e44,hnl,hkp⟩;dsimp only at hkp;have hdw:=wr (n:=(dn.length:Int)+1) (by omega) (by omega);have hlt':(dn.length:Int)<PG.length:=(by omega);have hg1m:=qoR hx;have hg1l:=htm g1 hg1m;simp[-getElem?_pos,e42,e43,e44,hlt',hx,j7];refine qX.listR g1 (fun dg ev U=>ev 0=.ptr s.S 0/\ev 2=r/\ev 3=m/\ev 9=.sl 1 (g.map zD) .none/\ev 10=.int .i64 (QB s d a (dn.flatten++dg):Nat)/\ev 42=.sl 1 (PG.map j7) .none/\ev 43=.int .i64 PG.length/\ev 44=.int .i64 dn.length/\ev 48=.sl 1 (g1.map zD) .none/\ev 49=.int .i64 g1.length/\ev 50=.int .i64 dg.length/\QB s d a (dn.flatten++dg)<d.length/\KpL [] H U.H) ?_ ?_ ?_
   . exact⟨by simp[e0],by simp[e2],by simp[e3],by simp[e9],by simp[e10],by simp[e42],by simp[e43],by simp[e44],by simp,by simp,by simp,by simpa using hnl,hkp⟩
   . rintro dg i rest2 ev ⟨H2,T2⟩ R2 hR2 hdl2 hx2 hlt2 ⟨e0,e2,e3,e9,e10,e42,e43,e44,e48,e49,e50,hnl2,hkp2⟩;dsimp only at hkp2;have hdw2:=wr (n:=(dg.length:Int)+1) (by omega) (by omega);have hlt2':(dg.length:Int)<g1.length:=(by omega);have him:i∈PG.flatten:=qpO.2 ⟨g1,hg1m,qoR hx2⟩;obtain⟨v,l,hv,hw0,hw8,hl,hl20,_⟩:=hpre.gr i him;obtain⟨n,hna,hn16⟩:=hpre.val i him;have hs2:=hs.keep hkp2 (by simp) (by simp) (by simp);have ha2:=ha.keep hkp2 (by simp);obtain⟨u,hu1,hu2⟩:=ha2.at0 hna;have hdes:=KR hs2 hd hdv hv hl ⟨hw0,hw8⟩ hl20 hnl2 (val:=n) (by omega) T2;have hsn:QB s d a (dn.flatten++(dg++[i]))=wz d l v.width.toNat n (QB s d a (dn.flatten++dg)) v.width.toNat:=by
      rw[<- qpm];unfold QB;rw[qp5];have h1:Za s.lv i=l:=(by simp[Za,qo5,hl]);have h2:jG s.p i=v.width.toNat:=(by simp[jG,zE,hv]);have h3:aN a i=n:=(by simp[aN,qo5,hna]);simp only[qpA,List.foldl_nil,h1,h2,h3]
     have hnl3:=Jv hd hnl2 l v.width.toNat n v.width.toNat;rw[<- hsn]at hdes hnl3;have hix:=qg1 (tok:=.none) hx2;generalize QB s d a (dn.flatten++dg)=nd at *;generalize hn2:QB s d a (dn.flatten++(dg++[i]))=nd2 at *;simp[-getElem?_pos,-zr,-yB,e0,e2,e10,e48,e49,e50,hlt2',hix,qlS,hu1,hu2];refine qc.acall hdes ?_;rintro w ⟨H3,T3⟩ ⟨rfl,hk3⟩;dsimp only at hk3;simp[-getElem?_pos,e50,hdw2];exact hR2 _ _ ⟨by simp[e0],by simp[e2],by simp[e3],by simp[e9],by simp,by simp[e42],by simp[e43],by simp[e44],by simp[e48],by simp[e49],by simp,by first | exact hnl3 | (rw[hn2];exact hnl3),hkp2.trans hk3⟩
   . rintro ev ⟨H2,T2⟩ ⟨e0,e2,e3,e9,e10,e42,e43,e44,e48,e49,e50,hnl2,hkp2⟩;simp[-getElem?_pos,e44,e49,e50,hdw];exact hR _ _ ⟨by simp[e0],by simp[e2],by simp[e3],by simp[e9],by simp[e10],by simp[e42],by simp[e43],by simp,by simpa using hnl2,hkp2⟩
 . rintro ev ⟨H1,T1⟩ ⟨e0,e2,e3,e9,e10,e42,e43,e44,hnl,hkp⟩;dsimp only at hkp;have hH1l:=hkp.1;have hs1:=hs.keep hkp (by simp) (by simp) (by simp);have hf1:=hf.keep hkp (by simp);have hSl:=(qoQ.1 hs.c).1;obtain⟨cw,hL,hcw⟩:=hs.w;have hLl:=(qoQ.1 hL).1;have hLLl:=hs.b;have hs2:=hs1.keep (H':=H1++[.map [] 0]) (bs:=[]) KpL.app (by simp) (by simp) (by simp);have hf2:=hf1.keep (H':=H1++[.map [] 0]) (bs:=[]) KpL.app (by simp);have hmF:∀ F,m=.map F->F≠H1.length:=fun F hF=>by
    rcases hf1 with ⟨rfl,_⟩|⟨F',es,n,rfl,hF',_⟩
    . cases hF
    . cases hF;have:=(qoQ.1 hF').1;omega
   have hsu:=qfS hd hdv hfx hg hgg (K:=H1.length) (by omega) (by omega) (by omega) hmF g.length 0 (by omega) (QB s d a PG.flatten) (H1++[.map [] 0]) T1 hnl hs2 hf2 ⟨[],0,lk0,by simp⟩;simp only[qpV]at hsu;simp[-getElem?_pos,e0,e3,e9,e10,e43,e44,zn,zU,qD];refine qc.acall hsu ?_;rintro w ⟨H3,T3⟩ ⟨rfl,hk3,_⟩;dsimp only at hk3;simp[-getElem?_pos];refine hkp.trans ⟨by have:=hk3.1;simp at this;omega,fun k x hk _=>hk3.2 _ _ (qa hk _) (by have:=(qoQ.1 hk).1;simp;omega)⟩
theorem qmS {s:Spc}(hvq:VQ s.p)(hvp:qk s.p=0)(hv20:s.p.vars.length<=20)(hb:yW s.p.vars (qx s.p)<=18)(hsm:s.small=false)(hRk:∀ e∈s.R,zc s.p.vars e=0/\JA e)(hRl:s.R.length<=50000)(hrt:qoM s.R s.rtok){fx:Nat->Option Nat}(hfx:∀ i x,fx i=some x->x<65536){m:AV}{gi:Nat}{g:List Nat}(hgi:(NG s.p)[gi]?=some g)(hgl:∀ g∈NG s.p,g.length<=1000)(hGl:(NG s.p).length<=1000)(hfl:(NG s.p).flatten.length<=1000)
 {r:AV} {a:List Int} {H:List Blk} (hg:qlo s g) (hpre:SpG s a ((NG s.p).take gi).flatten) (hs:SpOk s H) (hf:qfo m fx H) (ha:AsR r a H) (T:List (Option Nat)) :
 qf Tryz.prog GG 57 [.ptr s.S 0,.int .i64 gi,r,m] ⟨H,T⟩ (fun v U'=>v=.int .i64 (qbv s.p fx g (Ks s a ((NG s.p).take gi).flatten):Nat)/\KpL [] H U'.H):=by
 refine qf.kO ⟨false,qc4,[],[]⟩ qe Tryz.func57 rfl (by kernel_rfl) ?_;have hS:=hs.c;have hgil:=(qoQ.1 hgi).1;have hgil':(gi:Int)<(NG s.p).length:=by omega
 have hG:=KZ hvp;simp only[spE,qG,qpd,qpa,hsm,hG]at hS;have hsl:=qlx (G:=NG s.p) (gi:=gi) (by omega);have htl:((NG s.p).take gi).length<=1000:=by rw[qps];omega
 have htm:∀ g∈(NG s.p).take gi,g.length<=1000:=fun g hg=>hgl g (qpR hg)
 have hfl2:((NG s.p).take gi).flatten.length<=1000:=by
  have:(NG s.p).flatten=((NG s.p).take gi).flatten++((NG s.p).drop gi).flatten:=by rw[<- qqs,qpI]
  rw[this,qoV]at hfl;omega
 obtain⟨PG,hPG⟩:∃ PG,PG=(NG s.p).take gi:=⟨_,rfl⟩;rw[<- hPG]at hsl htl htm hpre hfl2 ⊢;simp[-getElem?_pos,hS,hgil,hgil',hgi,j7,hsl];have hgg:=hgl g (qoR hgi);have hrl:∀ l,(Ks s a l).length=s.R.length+l.length:=fun l=>by simp[Ks]
 refine qX.listR PG (fun dn ev U=>ev 0=.ptr s.S 0/\ev 2=r/\ev 3=m/\ev 9=.sl 1 (g.map zD) .none/\(∃ tok,ev 15=.sl 4 ((Ks s a dn.flatten).map qq) tok/\qoM (Ks s a dn.flatten) tok)/\ev 81=.sl 1 (PG.map j7) .none/\ev 82=.int .i64 PG.length/\ev 83=.int .i64 dn.length/\KpL [] H U.H) ?_ ?_ ?_
 . exact⟨by simp,by simp,by simp,by simp,⟨s.rtok,by simp[Ks],by simpa[Ks] using hrt⟩,by simp,by simp,by simp,KpL.refl⟩
 . rintro dn g1 rest ev ⟨H1,T1⟩ R hR hdl hx hlt ⟨e0,e2,e3,e9,⟨tok,e15,htok⟩,e81,e82,e83,hkp⟩;dsimp only at hkp;have hdw:=wr (n:=(dn.length:Int)+1) (by omega) (by omega);have hlt':(dn.length:Int)<PG.length:=(by omega);have hg1m:=qoR hx;have hg1l:=htm g1 hg1m;simp[-getElem?_pos,e0,e2,e3,e9,e15,e81,e82,e83,hlt,hlt',hx,j7];refine qX.listR g1 (fun dg ev U=>ev 0=.ptr s.S 0/\ev 2=r/\ev 3=m/\ev 9=.sl 1 (g.map zD) .none/\(∃ tok,ev 15=.sl 4 ((Ks s a (dn.flatten++dg)).map qq) tok/\qoM (Ks s a (dn.flatten++dg)) tok)/\ev 81=.sl 1 (PG.map j7) .none/\ev 82=.int .i64 PG.length/\ev 83=.int .i64 dn.length/\ev 87=.sl 1 (g1.map zD) .none/\ev 88=.int .i64 g1.length/\ev 89=.int .i64 dg.length/\KpL [] H U.H) ?_ ?_ ?_
   . exact⟨by simp[e0],by simp[e2],by simp[e3],by simp[e9],⟨tok,by simp[e15],by simpa using htok⟩,by simp[e81],by simp[e82],by simp[e83],by simp,by simp,by simp,hkp⟩
   . rintro dg i rest2 ev ⟨H2,T2⟩ R2 hR2 hdl2 hx2 hlt2 ⟨e0,e2,e3,e9,⟨tok,e15,htok⟩,e81,e82,e83,e87,e88,e89,hkp2⟩;dsimp only at hkp2;have hdw2:=wr (n:=(dg.length:Int)+1) (by omega) (by omega);have hlt2':(dg.length:Int)<g1.length:=(by omega);have him:i∈PG.flatten:=qpO.2 ⟨g1,hg1m,qoR hx2⟩;obtain⟨v,l,hv,hw0,hw8,hl,hl20,_⟩:=hpre.gr i him;obtain⟨n,hna,hn16⟩:=hpre.val i him;have hs2:=hs.keep hkp2 (by simp) (by simp) (by simp);have ha2:=ha.keep hkp2 (by simp);obtain⟨u,hu1,hu2⟩:=ha2.at0 hna;have heq:=qaK hs2 hv (n:Int) T2;have hsn:Ks s a (dn.flatten++(dg++[i]))=Ks s a (dn.flatten++dg)++[eqE v.name (n:Int)]:=by
      have h2:Z9 s.p i=v.name:=(by simp[Z9,hv]);have h3:aN a i=n:=(by simp[aN,qo5,hna]);simp[Ks,h2,h3]
     have hlen2:(Ks s a (dn.flatten++dg)).length<=60000:=by
      rw[hrl];have:(dn.flatten++dg).length<=PG.flatten.length:=by rw[hdl,hdl2];simp
      omega
     have hcl:=qhO (Ks s a (dn.flatten++dg)) (ptok tok) htok.p;have hae:=yE (eqE v.name (n:Int));have hl4:=zb (eqE v.name (n:Int));have htk:(qq (eqE v.name (n:Int))).take 4=qq (eqE v.name (n:Int)):=qoZ (by rw[hl4];exact qo0 _);have hap:=fun H T=>WH (R:=Ks s a (dn.flatten++dg)) (X:=eqE v.name (n:Int)) (H:=H) (T:=T) (by omega)
     have hix:=qg1 (tok:=.none) hx2;generalize Ks s a (dn.flatten++dg)=R0 at *;generalize eqE v.name (n:Int)=X at *;simp[-getElem?_pos,-zr,-yB,e0,e2,e3,e9,e15,e81,e82,e83,e87,e88,e89,hlt2',hix,qlS];rw[qH rfl];simp[-getElem?_pos,-qN,-zr,-yB,qL,e0,e2,e3,e9,e15];refine qc.pure hcl (by cases tok<;>simp) (by cases tok<;>simp[zu,Leq,jV.refl,ptok]) ?_;simp[-getElem?_pos,-qN,-zr,-yB,qL,e0,e2,e3,e9,e15,hu1,hu2];refine qc.acall heq ?_;rintro w ⟨H3,T3⟩ ⟨rfl,hk3⟩;dsimp only at hk3;simp[-getElem?_pos,-qN,qL,e0,e2,e3,e9,e15,htk,hae,hl4,qj,qs,hap,e81,e82,e83,e87,e88,e89,hdw2];refine hR2 _ _ ⟨by simp[e0],by simp[e2],by simp[e3],by simp[e9],⟨.chain T3.length 1,by simp[hsn],by rw[hsn];exact .inl (by simp)⟩,by simp[e81],by simp[e82],by simp[e83],by simp[e87],by simp[e88],by simp,hkp2.trans hk3⟩
   . rintro ev ⟨H2,T2⟩ ⟨e0,e2,e3,e9,⟨tok,e15,htok⟩,e81,e82,e83,e87,e88,e89,hkp2⟩;simp[-getElem?_pos,e0,e2,e3,e9,e15,e81,e82,e83,e87,e88,e89,hdw];exact hR _ _ ⟨by simp[e0],by simp[e2],by simp[e3],by simp[e9],⟨tok,by simp[e15],by simpa using htok⟩,by simp[e81],by simp[e82],by simp,hkp2⟩
 . rintro ev ⟨H1,T1⟩ ⟨e0,e2,e3,e9,⟨tok,e15,htok⟩,e81,e82,e83,hkp⟩;dsimp only at hkp;have hs1:=hs.keep hkp (by simp) (by simp) (by simp);have hf1:=hf.keep hkp (by simp);have hkn:∀ e∈Ks s a PG.flatten,zc s.p.vars e=0/\JA e:=fun e he=>by
    rcases qpg.1 he with he|he
    . exact hRk e he
    . obtain⟨i,hi,rfl⟩:=qpi.1 he;obtain⟨v,l,hv,_⟩:=hpre.gr i hi;obtain⟨n,hna,hn16⟩:=hpre.val i hi;have h2:Z9 s.p i=v.name:=(by simp[Z9,hv]);have h3:aN a i=n:=(by simp[aN,qo5,hna]);rw[h2,h3];exact qdI hvq hvp hv (by omega) (by omega)
   have htr:=qiV hvq hvp hv20 hb hfx (m:=m) g (Ks s a PG.flatten) tok H1 T1 hg hkn (by rw[hrl];omega) htok hs1 hf1;simp[-getElem?_pos,e0,e2,e3,e9,e15,e81,e82,e83];refine qc.acall htr ?_;rintro w ⟨H3,T3⟩ ⟨rfl,hk3⟩;dsimp only at hk3;simp[-getElem?_pos];exact hkp.trans hk3
theorem qaX {s:Spc}{H:List Blk}(hs:SpOk s H)(hw:∀ v∈s.p.vars,0<=v.width/\v.width<=8)(hvl:s.p.vars.length<=1000){r:AV}{a:List Int}(ha:AsR r a H)(T:List (Option Nat)) :
 qf Tryz.prog GG 32 [.ptr s.S 0,r] ⟨H,T⟩ (fun v U'=>v=.bool (qM s.p.vars a)/\KpL [] H U'.H):=by
 refine qf.k qe Tryz.func32 rfl (by kernel_rfl) ?_;have hS:=hs.c;have hlen:=ha.len;simp only[spE,qG,qpd,qpa]at hS;obtain⟨res,hres⟩:∃ res,res=qM s.p.vars a:=⟨_,rfl⟩;rw[<- hres];unfold qM at hres;by_cases hl:a.length=s.p.vars.length
 case neg=>
  have hl':¬ (a.length:Int)=s.p.vars.length:=by omega
  have:res=false:=by rw[hres];simp[hl]
  subst this;simp[-getElem?_pos,-Jn,hlen,hS,show Jn (Dof Tryz.prog) ⟨H,T⟩ 22 (.sl 4 (s.p.vars.map qC) .none)=some (.int .i64 (s.p.vars.length:Nat)) by simp,hl'];exact KpL.refl
 have hl':(a.length:Int)=s.p.vars.length:=by omega
 have hres:res=(s.p.vars.zip a).all z5:=by rw[hres];simp[hl]
 simp[-getElem?_pos,-Jn,hlen,hS,show ∀ U,Jn (Dof Tryz.prog) U 22 (.sl 4 (s.p.vars.map qC) .none)=some (.int .i64 (s.p.vars.length:Nat)) from fun U=>by simp,hl'];refine qX.listR s.p.vars (fun d ev U=>ev 1=r/\ev 20=.sl 4 (s.p.vars.map qC) .none/\ev 21=.int .i64 s.p.vars.length/\ev 22=.int .i64 d.length/\KpL [] H U.H/\res=((s.p.vars.drop d.length).zip (a.drop d.length)).all z5) ?_ ?_ ?_
 . exact⟨by simp,by simp,by simp,by simp,KpL.refl,by simpa using hres⟩
 . rintro d v rest ev ⟨H1,T1⟩ R hR hd hx hlt ⟨e1,e20,e21,e22,hkp,hr⟩;dsimp only at hkp;have hdw:=wr (n:=(d.length:Int)+1) (by omega) (by omega);have hlt':(d.length:Int)<s.p.vars.length:=(by omega);have hda:d.length<a.length:=(by omega);obtain⟨x,hax⟩:∃ x,a[d.length]?=some x:=⟨_,qoS hda⟩;have hvd:s.p.vars.drop d.length=v::s.p.vars.drop (d.length+1):=by
    obtain⟨h1,h2⟩:=qoQ.1 hx;rw[qo9 h1,h2]
   have had:a.drop d.length=x::a.drop (d.length+1):=by
    obtain⟨h1,h2⟩:=qoQ.1 hax;rw[qo9 h1,h2]
   rw[hvd,had,qrT,qqv]at hr;have hwv:=hw v (qoR hx);have hs1:=v7 hwv.1 (by omega);have hwn:¬ v.width<0:=(by omega);have ha1:=ha.keep hkp (by simp);have hszz:((2 ^ v.width.toNat:Nat):Int)=(2:Int) ^ v.width.toNat:=(by simp);have hgo:∀ ev' U',ev' 1=r->ev' 20=.sl 4 (s.p.vars.map qC) .none->ev' 21=.int .i64 s.p.vars.length->ev' 22=.int .i64 (d.length+1:Nat)->KpL [] H U'.H->z5 (v,x)=true->R ev' U':=fun ev' U' b1 b2 b3 b4 b5 b6=>hR _ _ ⟨b1,b2,b3,by rw[b4,qoV,qpo],b5,by rw[hr,b6,qpT,qoV,qpo]⟩
   have hbad:z5 (v,x)=false->res=false:=fun h=>by rw[hr,h];rfl
   unfold z5 at hgo hbad;simp only at hgo hbad;rw[<- hszz]at hgo hbad;generalize 2 ^ v.width.toNat=N at *;have hnext:∀ u,KpL [] H (H1++u):=fun u=>hkp.trans KpL.app
   rcases ha1 with ⟨tok,rfl⟩|⟨A,rfl,hA⟩
   case' inr=>
    have hto:(zN a)[d.length]?=some (.int .i64 x):=(by rw[WS,hax];rfl);have hdr:(zN a).drop d.length=.int .i64 x::(zN a).drop (d.length+1):=by
     obtain⟨h1,h2⟩:=qoQ.1 hto;rw[qo9 h1,h2]
    have hla:d.length+1<=a.length:=hda;have hdi:(d.length:Int)<a.length:=by omega
   all_goals
    by_cases hm:v.mode=0
    . by_cases hxv:x=v.value
      . subst hxv;by_cases hx0:v.value<0
        . have hb:=hbad (by simp;omega);subst hb
          first | simp[-getElem?_pos,e1,e20,e21,e22,hlt,hlt',hx,hax,hwn,IntKind.bits,hs1,hdw,unA,hA,qa hA,hdr,za,hla,hdi,hm,hx0] | simp[-getElem?_pos,e1,e20,e21,e22,hlt,hlt',hx,hax,hwn,IntKind.bits,hs1,hdw,unA,hm,hx0]
          exact hnext _
        . by_cases hxN:(N:Int)<=v.value
          . have hb:=hbad (by simp;omega);subst hb
            first | simp[-getElem?_pos,e1,e20,e21,e22,hlt,hlt',hx,hax,hwn,IntKind.bits,hs1,hdw,unA,hA,qa hA,hdr,za,hla,hdi,hm,hx0,hxN] | simp[-getElem?_pos,e1,e20,e21,e22,hlt,hlt',hx,hax,hwn,IntKind.bits,hs1,hdw,unA,hm,hx0,hxN]
            exact hnext _
          . have hg:=hgo
            first | simp[-getElem?_pos,e1,e20,e21,e22,hlt,hlt',hx,hax,hwn,IntKind.bits,hs1,hdw,unA,hA,qa hA,hdr,za,hla,hdi,hm,hx0,hxN] | simp[-getElem?_pos,e1,e20,e21,e22,hlt,hlt',hx,hax,hwn,IntKind.bits,hs1,hdw,unA,hm,hx0,hxN]
            exact hgo _ _ (by simp[e1]) (by simp[e20]) (by simp[e21]) (by simp) (hnext _) (by simp[hm,hx0,hxN];omega)
      . have hb:=hbad (by simp[hm,hxv]);subst hb
        first | simp[-getElem?_pos,e1,e20,e21,e22,hlt,hlt',hx,hax,hwn,IntKind.bits,hs1,hdw,unA,hA,qa hA,hdr,za,hla,hdi,hm,hxv] | simp[-getElem?_pos,e1,e20,e21,e22,hlt,hlt',hx,hax,hwn,IntKind.bits,hs1,hdw,unA,hm,hxv]
        exact hnext _
    . by_cases hx0:x<0
      . have hb:=hbad (by simp;omega);subst hb
        first | simp[-getElem?_pos,e1,e20,e21,e22,hlt,hlt',hx,hax,hwn,IntKind.bits,hs1,hdw,unA,hA,qa hA,hdr,za,hla,hdi,hm,hx0] | simp[-getElem?_pos,e1,e20,e21,e22,hlt,hlt',hx,hax,hwn,IntKind.bits,hs1,hdw,unA,hm,hx0]
        exact hnext _
      . by_cases hxN:(N:Int)<=x
        . have hb:=hbad (by simp;omega);subst hb
          first | simp[-getElem?_pos,e1,e20,e21,e22,hlt,hlt',hx,hax,hwn,IntKind.bits,hs1,hdw,unA,hA,qa hA,hdr,za,hla,hdi,hm,hx0,hxN] | simp[-getElem?_pos,e1,e20,e21,e22,hlt,hlt',hx,hax,hwn,IntKind.bits,hs1,hdw,unA,hm,hx0,hxN]
          exact hnext _
        . have hg:=hgo
          first | simp[-getElem?_pos,e1,e20,e21,e22,hlt,hlt',hx,hax,hwn,IntKind.bits,hs1,hdw,unA,hA,qa hA,hdr,za,hla,hdi,hm,hx0,hxN] | simp[-getElem?_pos,e1,e20,e21,e22,hlt,hlt',hx,hax,hwn,IntKind.bits,hs1,hdw,unA,hm,hx0,hxN]
          exact hgo _ _ (by simp[e1]) (by simp[e20]) (by simp[e21]) (by simp) (hnext _) (by simp[hm,hx0,hxN];omega)
 . rintro ev ⟨H1,T1⟩ ⟨e1,e20,e21,e22,hkp,hr⟩;have:res=true:=by rw[hr,qqP];rfl
   subst this;simp[-getElem?_pos,e20,e21,e22];exact hkp
structure SpV (s:Spc)(d:List Nd):Prop where
 vq:VQ s.p
 vp:qk s.p=0
 v20:s.p.vars.length<=20
 bits:yW s.p.vars (qx s.p)<=18
 rk:∀ e∈s.R,zc s.p.vars e=0/\JA e
 rl:s.R.length<=50000
 rt:qoM s.R s.rtok
 lv:s.lv=qz s.p
 dag:s.small=true->DagOk d/\(∃ tok,s.dv=.sl 3 (d.map qt) tok)/\s.root<d.length
 ws:∀ (i:Nat) (w:List Weight),(jx s.p.vars.length s.p.dists)[i]?=some (some w)->w≠[]/\w.length<=1000
noncomputable def Wh (s:Spc)(d:List Nd)(fx:Nat->Option Nat)(a:List Int)(gi:Nat):Nat :=
 if s.small=true then Vf s.p s.lv d fx ((NG s.p).getD gi []) (QB s d a ((NG s.p).take gi).flatten) else qbv s.p fx ((NG s.p).getD gi []) (Ks s a ((NG s.p).take gi).flatten)
theorem qfV (s:Spc)(d:List Nd)(fx:Nat->Option Nat)(a:List Int)(gi:Nat):Wh s d fx a gi<=lim:=by
 unfold Wh;split
 . exact qfX _ _ _ _ _ _
 . exact qfU _ _ _ _
theorem qio {p:Problem}(h:qk p=0){i:Nat}(hi:i∈(NG p).flatten):∃ (k:Nat),p.groups.flatten[k]?=some (i:Int):=by
 have:(i:Int)∈p.groups.flatten:=by rw[Ql h];exact qpi.2 ⟨i,hi,rfl⟩
 exact qpx this
theorem SpV.gr {s:Spc}{d:List Nd}(h:SpV s d){l:List Nat}(hl:∀ i∈l,i∈(NG s.p).flatten):qlo s l:=fun i hi=>by
 obtain⟨k,hk⟩:=qio h.vp (hl i hi);obtain⟨n,v,hn,hv,hm⟩:=JU ((jP h.vp).2.1 _ (qoR hk));have hn:n=i:=by omega
 subst hn;have hw:=ze (js h.vp v (qoR hv));have hl:=Yf h.vp hk;have h1:=Jj (vt h.vp) (s.p.groups.flatten.take k);have h2:=Ki (vt h.vp) s.p.groups.flatten k;have h3:=Yr h.vp;refine⟨v,(yy s.p.vars (s.p.groups.flatten.take k)).toNat,hv,by omega,by omega,?_,by omega,h.ws n⟩;rw[h.lv,hl];congr 1;omega
theorem qip {p:Problem}(h:qk p=0):(NG p).flatten.length<=p.vars.length:=by
 have:=KJ h;rw[Ql h,qpv]at this;exact this
theorem qcv {p:Problem}(h:qk p=0)(hv:p.vars.length<=1000):(∀ g∈NG p,g.length<=1000)/\(NG p).length<=1000:=by
 have h1:=qip h;have h2:∀ g∈NG p,g≠[]:=fun g hg=>by
  obtain⟨g',hg',rfl⟩:=qpi.1 hg;have:=(jP h).1 g' hg';simpa using this
 have key:∀ G:List (List Nat),(∀ g∈G,g≠[])->(∀ g∈G,g.length<=G.flatten.length)/\G.length<=G.flatten.length:=by
  intro G
  induction G with
  | nil=>intro _;simp
  | cons a r ih=>
   intro hG;obtain⟨i1,i2⟩:=ih fun g hg=>hG g (by simp[hg])
   have ha:=qo6.2 (hG a (by simp));refine⟨fun g hg=>?_,by rw[qpw,qoV,qo7];omega⟩;rcases qpj.1 hg with rfl|hg
   . simp
   . have:=i1 g hg;rw[qpw,qoV];omega
 obtain⟨k1,k2⟩:=key (NG p) h2;exact⟨fun g hg=>by have:=k1 g hg;omega,by omega⟩
def AOk (p:Problem)(a:List Int):Prop:=∀ i∈(NG p).flatten,∃ n:Nat,a[i]?=some (n:Int)/\n<65536
theorem Qh {p:Problem}(h:qk p=0){a:List Int}(ha:qM p.vars a=true):AOk p a:=fun i hi=>by
 obtain⟨k,hk⟩:=qio h hi;obtain⟨n,v,hn,hv,hm⟩:=JU ((jP h).2.1 _ (qoR hk));have hn:n=i:=by omega
 subst hn;unfold qM at ha;simp only[qoW,decide_eq_true_eq]at ha;have hil:=(qoQ.1 hv).1;obtain⟨x,hx⟩:∃ x,a[n]?=some x:=⟨_,qoS (by omega)⟩;have hz:(v,x)∈p.vars.zip a:=qoR (i:=n) (qql.2 ⟨hv,hx⟩);have h1:=qo1.1 ha.2 _ hz;unfold z5 at h1;simp only[qoW,decide_eq_true_eq]at h1;have hw:=ze (js h v (qoR hv));have h2:(2:Nat) ^ v.width.toNat<=2 ^ 8:=qpl (by omega) (by omega);have h3:((2 ^ v.width.toNat:Nat):Int)=(2:Int) ^ v.width.toNat:=by simp
 exact⟨x.toNat,by rw[hx];congr 1;omega,by omega⟩
theorem qlw {s:Spc}{d:List Nd}(h:SpV s d){fx:Nat->Option Nat}(hfx:∀ i x,fx i=some x->x<65536){m:AV}{gi:Nat}(hgi:gi<(NG s.p).length){r:AV}{a:List Int}{H:List Blk}(hao:AOk s.p a)(hs:SpOk s H)(hf:qfo m fx H)(ha:AsR r a H)(T:List (Option Nat)) :
 qf Tryz.prog GG 57 [.ptr s.S 0,.int .i64 gi,r,m] ⟨H,T⟩ (fun v U'=>v=.int .i64 (Wh s d fx a gi:Nat)/\KpL [] H U'.H):=by
 obtain⟨g,hg⟩:∃ g,(NG s.p)[gi]?=some g:=⟨_,qoS hgi⟩;have hgd:(NG s.p).getD gi []=g:=by simp[qo5,hg]
 have hl:=qcv h.vp h.vq.vars;have hfl:(NG s.p).flatten.length<=1000:=qpL (qip h.vp) h.vq.vars;have hgr:qlo s g:=h.gr fun i hi=>qpO.2 ⟨g,qoR hg,hi⟩
 have hsub:∀ i∈((NG s.p).take gi).flatten,i∈(NG s.p).flatten:=fun i hi=>by
  obtain⟨g',hg',hi'⟩:=qpO.1 hi;exact qpO.2 ⟨g',qpR hg',hi'⟩
 have hpre:SpG s a ((NG s.p).take gi).flatten:=⟨h.gr hsub,fun i hi=>hao i (hsub i hi)⟩;unfold Wh;rw[hgd];by_cases hsm:s.small=true
 . obtain⟨hd,⟨tok,hdv⟩,hr⟩:=h.dag hsm;rw[if_pos hsm];exact qmT h.vp hsm hd hdv hr hfx hg hl.1 hl.2 hgr hpre hs hf ha T
 . rw[if_neg hsm];exact qmS h.vq h.vp h.v20 h.bits (by simpa using hsm) h.rk h.rl h.rt hfx hg hl.1 hl.2 hfl hgr hpre hs hf ha T
noncomputable def Kh (s:Spc)(d:List Nd)(gi:Int)(a:List Int):Int×Int :=
 if gi<0\/((NG s.p).length:Int)<=gi\/qM s.p.vars a=false then (0,1)
 else if Wh s d (fun _=>none) a gi.toNat=0 then (0,11) else if Wh s d (fun _=>none) a gi.toNat=lim then (0,3) else (Wh s d (fun _=>none) a gi.toNat,0)
theorem qbr {s:Spc}{d:List Nd}(h:SpV s d)(gi:Int){r:AV}{a:List Int}{H:List Blk}(hs:SpOk s H)(ha:AsR r a H)(T:List (Option Nat)) :
 qf Tryz.prog GG 26 [.ptr s.S 0,.int .i64 gi,r] ⟨H,T⟩ (fun v U'=>v=.tup [.int .i64 (Kh s d gi a).1,.int .i64 (Kh s d gi a).2]/\KpL [] H U'.H):=by
 refine qf.k qe Tryz.func26 rfl (by kernel_rfl) ?_;have hS:=hs.c;have hG:=KZ h.vp;have hw:∀ v∈s.p.vars,0<=v.width/\v.width<=8:=fun v hv=>by have:=ze (js h.vp v hv);omega
 have has:=qaX hs hw h.vq.vars ha T;simp only[spE,qG,qpd,qpa,hG]at hS;obtain⟨res,hres⟩:∃ res,res=Kh s d gi a:=⟨_,rfl⟩;rw[<- hres];unfold Kh at hres;by_cases h0:gi<0
 . rw[if_pos (.inl h0)]at hres;subst hres;simp[-getElem?_pos,h0,hS,unA];exact KpL.refl
 by_cases h1:((NG s.p).length:Int)<=gi
 . rw[if_pos (.inr (.inl h1))]at hres;subst hres;simp[-getElem?_pos,h0,h1,hS,unA];exact KpL.refl
 simp[-getElem?_pos,h0,h1,hS,unA];refine qc.acall has ?_;rintro v ⟨H1,T1⟩ ⟨rfl,hk1⟩;dsimp only at hk1
 cases hA:qM s.p.vars a with
 | false=>
  rw[if_pos (.inr (.inr hA))]at hres;subst hres;simp[-getElem?_pos,unA];exact hk1
 | true=>
  rw[if_neg (by simp[h0,hA];omega)]at hres;obtain⟨g,rfl⟩:=qpq (by omega:0<=gi);have hsu:=qlw h (fx:=fun _=>none) (by simp) (m:=.nilm) (gi:=g) (by omega) (Qh h.vp hA) (hs.keep hk1 (by simp) (by simp) (by simp)) (.inl ⟨rfl,fun _=>rfl⟩) (ha.keep hk1 (by simp)) T1;rw[qpC]at hres;have hle:=qfV s d (fun _=>none) a g;generalize Wh s d (fun _=>none) a g=n at *;simp[-getElem?_pos,unA];refine qc.acall hsu ?_;rintro v ⟨H2,T2⟩ ⟨rfl,hk2⟩;dsimp only at hk2;have hkk:=hk1.trans hk2;by_cases hn0:n=0
  . rw[if_pos hn0]at hres;subst hres;simp[-getElem?_pos,hn0];exact hkk
  . rw[if_neg hn0]at hres;have hn0':¬ (n:Int)=0:=(by omega);by_cases hnl:n=lim
    . rw[if_pos hnl]at hres;subst hres;have hnl':(n:Int)=1099511627777:=(by rw[hnl];rfl);simp[-getElem?_pos,hn0,hn0',hnl'];exact hkk
    . rw[if_neg hnl]at hres;subst hres;have hnl':¬ (n:Int)=1099511627777:=(by unfold lim at hnl;omega);simp[-getElem?_pos,hn0,hn0',hnl'];exact hkk
end Go.Proofs.YtkpkjbchlabaaaaGreatDoor
end
