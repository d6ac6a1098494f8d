import Derived.Test.YtfmdnopgncbmoaaGreatDoorPs32
import Derived.Tactics
import Derived.Tactics2
import Derived.Defers
import Derived.Recover
import Derived.Laws.Pointers
import Derived.WalkKit
import Derived.RowKit3
set_option maxRecDepth 100000
set_option maxHeartbeats 16000000
set_option linter.all false
set_option linter.defProp false
namespace Go.Proofs.YtfmdnopgncbmoaaGreatDoor
open Go Go.Abs Tryz Go.RowKit
def Yr:∀(new c) (off),(zj c off new).length=c.length
 |[],c,off=>rfl
 |v::r,c,off=>by rw[zj,Yr r];simp
def qaV(A B Z)(h:Z.length=A.length+B.length):zj (zj Z 0 A) A.length B=A++B:=by
 obtain⟨Z1,Z2,rfl,h1⟩:∃Z1 Z2,Z=Z1++Z2/\Z1.length=A.length:=⟨Z.take A.length,Z.drop A.length,(qzA _ _).symm,by rw[qzo];omega⟩;rw[wK A Z1 Z2 h1];have:=vC (c:=Z2) B A 0;rw[qz8]at this;rw[this,putAt_all Z2 B (by simp at h;omega)]
def qvy(N k)(h:k<N):zo (.ms 1 0 N 4) (some (.int .i64 (k:Int))) none none=some (.ms 1 (k*4) (N-k) 4):=by
 show(if(0:Int)<=k/\(k:Int)<=N/\(N:Int)<=N/\((k:Int)=0\/(k:Int)<N) then some (AV.ms 1 (0+(k:Int).toNat*4) ((N:Int).toNat-(k:Int).toNat) 4) else if(k:Int)=N/\(N:Int)=N then some (.sl 4 [] .none) else none)=_;rw[if_pos ⟨by omega,by omega,by omega,by omega⟩];simp
def qr2(N)(h:0<N):zo (.ms 1 0 N 4) (some (.int .i64 (N:Int))) none none=some (.sl 4 [] .none):=by
 show(if(0:Int)<=N/\(N:Int)<=N/\(N:Int)<=N/\((N:Int)=0\/(N:Int)<N) then some (AV.ms 1 (0+(N:Int).toNat*4) ((N:Int).toNat-(N:Int).toNat) 4) else if(N:Int)=N/\(N:Int)=N then some (.sl 4 [] .none) else none)=_;rw[if_neg (by omega),if_pos ⟨rfl,rfl⟩]
noncomputable def zI(p:Problem):List Ex:=p.hard++yg p
def YF(p)(h:VQ p)(hd:p.dists.length<=10000):Pure prog GG 54 [.agg (qA p)] (.sl 4 ((zI p).map qt) .none):=by
 refine qCK o0 true qe func54 rfl (by kernel_rfl) ?_;have hs:=Z6 p h hd;have hh:=h.hard;have hsl:(yg p).length<=10000:=by
  unfold yg;split
  . simp[w9,hd]
  simp
 have hn:zI p=p.hard++yg p:=rfl;rw[hn];generalize yg p=S at *;simp only[qA]at hs;have hw:=wr (n:=(p.hard.length:Int)+S.length) (by omega) (by omega);by_cases h0:p.hard=[]/\S=[]
 . obtain⟨h1,h2⟩:=h0;subst h2;rw[h1]at hs hw⊢;simp[h1];refine qCO hs (by simp) ?_;simp[show IntKind.i64.wrap 0=0 by decide,qz,yJ,qaa,zo,zU,kI,z0];have hfc:∀H,frz H 8 (.sl 4 [] (.chain 0 0))=.sl 4 [] .none:=fun H=>by rw[frz];simp[zb]
   rw[hfc];exact⟨by simp,qCT _⟩
 have hpos:0<p.hard.length+S.length:=by
  rcases qzV (p.hard.length+S.length) with h|h
  . exact absurd ⟨qyX (by omega),qyX (by omega)⟩ h0
  exact h
 have hnz:¬(p.hard.length:Int)+S.length=0:=by omega
 have hle:(p.hard.length:Int)+S.length<=549755813888:=by omega
 have hge:(0:Int)<=(p.hard.length:Int)+S.length:=by omega
 have htn:((p.hard.length:Int)+S.length).toNat=p.hard.length+S.length:=by omega
 obtain⟨Z,hZ⟩:∃Z,Z=(List.replicate (p.hard.length+S.length) [AV.int .i64 0,.int .i64 0,.str [],.sl 0 [] .nil]).flatten:=⟨_,rfl⟩;have hZl:Z.length=(p.hard.length+S.length)*4:=by rw[hZ];simp
 have hAl:=Go.Abs.jf (sz:=4) zh p.hard;have h2:=qaV (p.hard.flatMap qt) (S.flatMap qt) Z (by rw[hZl,hAl,Go.Abs.jf (sz:=4) zh S,qzr]);rw[hAl,<- List.flatMap_append]at h2;have hc1:∀B0:Blk,yJ (Dof prog) ⟨[B0,.cells Z],[]⟩ 23 (.ms 1 0 (p.hard.length+S.length) 4) (.sl 4 (p.hard.map qt) .none)=some (.int .i64 p.hard.length,⟨[B0,.cells (zj Z 0 (p.hard.flatMap qt))],[]⟩):=fun B0=>by
  by_cases hh0:p.hard=[]
  . simp[yJ,qaa,hh0,zj]
  have hm:min p.hard.length (p.hard.length+S.length)=p.hard.length:=by omega
  have hl:p.hard.length*4<=(p.hard.length+S.length)*4:=by omega
  simp[yJ,qaa,qnw,hm,hh0,show(p.hard.map qt).take p.hard.length=p.hard.map qt from qyN (by simp),show(p.hard.map qt).flatten=p.hard.flatMap qt by rw[qAv],hZl,hl]
 by_cases hS0:S=[]
 . subst hS0;have hhp:0<p.hard.length:=(by simpa using hpos);have hsl2:=qr2 p.hard.length hhp;have ho:∀B0:Blk,jr 1 4 qt [B0,.cells (p.hard.flatMap qt)] (.ms 1 0 p.hard.length 4) p.hard:=fun B0=>.inr ⟨qyZ.1 hhp,rfl,rfl⟩
   have hpa:zj Z 0 (p.hard.flatMap qt)=p.hard.flatMap qt:=putAt_all _ _ (by rw[hZl,hAl];simp);rw[hpa]at hc1;simp only[qzH,qz8,qz1,Int.add_zero]at hw hnz hle hge htn hZ hc1;simp only[qzj]at hs;generalize p.hard.flatMap qt=FE at *;simp;refine qCO hs (by simp) ?_;simp[hw,hle,hge,qyZ.1 hhp,qz,<- hZ,hc1,hsl2,show ∀U:St,yJ (Dof prog) U 23 (.sl 4 [] .none) (.sl 4 [] .none)=some (.int .i64 0,U) from fun U=>by simp[yJ,qaa]];exact⟨(ho (.cells (qA p))).frzNo zh (fun x=>nrE x) yA 7,(ho (.cells (qA p))).frz zh (fun x=>nrE x) yA 7⟩
 have hSp:=qyZ.2 hS0;have hsl2:zo (.ms 1 0 (p.hard.length+S.length) 4) (some (.int .i64 p.hard.length)) none none=some (.ms 1 (p.hard.length*4) S.length 4):=by
  rw[qvy _ _ (by omega),show p.hard.length+S.length-p.hard.length=S.length by omega]
 have hc2:∀B0:Blk,yJ (Dof prog) ⟨[B0,.cells (zj Z 0 (p.hard.flatMap qt))],[]⟩ 23 (.ms 1 (p.hard.length*4) S.length 4) (.sl 4 (S.map qt) .none)=some (.int .i64 S.length,⟨[B0,.cells ((p.hard++S).flatMap qt)],[]⟩):=fun B0=>by
  simp[yJ,qaa,qnw,hS0,show(S.map qt).take S.length=S.map qt from qyN (by simp),show(S.map qt).flatten=S.flatMap qt by rw[qAv],show(zj Z 0 (p.hard.flatMap qt)).length=(p.hard.length+S.length)*4 by rw[Yr,hZl],show p.hard.length*4+S.length*4<=(p.hard.length+S.length)*4 by omega,-List.flatMap_append,h2]
 have ho:∀B0:Blk,jr 1 4 qt [B0,.cells ((p.hard++S).flatMap qt)] (.ms 1 0 (p.hard.length+S.length) 4) (p.hard++S):=fun B0=>.inr ⟨by simp[hS0],by simp⟩
 generalize (p.hard++S).flatMap qt=FE at *;generalize zj Z 0 (p.hard.flatMap qt)=Z1 at *;simp;refine qCO hs (by simp) ?_;simp[hw,hnz,hle,hge,qz,htn,<- hZ,hc1,hsl2,hc2];have f1:=(ho (.cells (qA p))).frz zh (fun x=>nrE x) yA 7;have f2:=(ho (.cells (qA p))).frzNo zh (fun x=>nrE x) yA 7;rw[qzE]at f1;exact⟨f2,f1⟩
def J1(e:Ex):Prop:=Wen e/\hgt e<=1000/\(pre e).length<=100000
def qph:∀(e x),x∈pre e->(pre x).length<=(pre e).length:=by
 refine qDa fun e ih x hx=>?_
 rw[ju]at hx;rcases qy9.1 hx with rfl|hx
 . exact qyQ _
 obtain⟨a,ha,hxa⟩:=Q6.1 hx;exact qzs (ih a ha x hxa) (qd2 ha)
def EOk.tame{s e h m}(ho:EOk s h m e)(hs:Fits s)(hh:h<=1000)(hm:m<=100000):J1 e:=by
 refine⟨fun x hx=>?_,qzs ho.hgt hh,qzs ho.size hm⟩;have h1:=qph e x hx;have h2:=qeX x;have h3:=ho.size;obtain⟨n1,n2,n3,n4⟩:=ho.nodes x hx;refine⟨by show x.args.length<_;omega,?_⟩;by_cases h:x.op=2
 . rwa[n4 h]
 have:=(jk n1).2.2.2.2.2.2.2 (by rintro(h'|h'|h');exact h h';exact n2 h';exact n3 h');rw[this];simp[Fits]
def qa8(n):J1 (jL n):=by
 refine⟨fun x hx=>?_,by simp[kR,jL],by rw[QZ];simp⟩;rw[QZ]at hx;simp only[qy9,qAd,or_false]at hx;subst hx;exact⟨by simp[jL,Fits,Ex.args],by simp[jL,Fits,Ex.name]⟩
def qcs{s}(hs:kq s=true)(hf:Fits s){l:List Rg}(hl:l.length<=128)(hr:∀r∈l,qkk r):J1 (kF s l):=by
 unfold kF;split
 . exact qa8 0
 rename_i h0;have hpos:=qyZ.2 h0;have h1:=EOk.ins hs (l:=l.take 16) (qyZ.1 (by rw[qzo];omega)) (by rw[qzo];omega) (fun r h=>hr r (qzy h));have h2:=EOk.chain hs (zX 16 l.length (l.drop 16)) (h:=0) h1 (fun c hc=>by
  obtain⟨a,b,c'⟩:=Yw (by omega) _ _ c hc;exact⟨a,b,fun r h=>hr r (qAj (c' r h))⟩)
 have h3:=Yx (n:=16) (by omega) l.length (l.drop 16) 7 (by rw[qAU];omega);exact h2.tame hf (by omega) (by omega)
def qhf{vs}(hv:∀v∈vs,jK v=0)(hf:∀v∈vs,Fits v.name)(d):J1 (JH vs d):=by
 unfold JH;split
 . rename_i v h;have hm:=qyG h;have h1:=zc (hv v hm);have h2:=qcu v d.weights;have h3:=W0 h1.2.2;have h4:=qcC (N:=(z7 v:Nat)) h2.1 (fun x hx=>by have:=h2.2 x hx;omega) (by omega);exact qcs h1.1 (hf v hm) (by omega) h4.1
 exact qa8 0
def Q4{p}(h:VQ p)(hv:qk p=0):∀e∈zI p++p.soft,vG p.vars e=true/\J1 e:=by
 have hx:∀e∈p.hard++p.soft,zi p.vars e=0:=by
  have:qO (zi p.vars) (p.hard++p.soft)=0:=by
   unfold qk at hv;split at hv
   . exact absurd hv (by assumption)
   split at hv
   . rename_i h1;exact absurd hv h1
   rename_i h1;exact qzB.1 h1
  exact zz.1 this
 intro e he;have hs:yg p=w9 p:=if_pos hv;rw[zI,hs]at he;rcases qy0.1 he with he|he
 . rcases qy0.1 he with he|he
   . exact⟨decide_eq_true (hx e (qzM _ he)),h.exprs e (qzM _ he)⟩
   . obtain⟨d,hd,rfl⟩:=qza.1 he;exact⟨decide_eq_true (qfs (ji hv) d),qhf (ji hv) h.names d⟩
 exact⟨decide_eq_true (hx e (qAs _ he)),h.exprs e (qAs _ he)⟩
def qwS(H:List Blk)(T:List (Option Nat))(r:AV)(U':St):Prop:=r=.sl 4 [] (.chain T.length 0)/\U'.T=T++[some 0]/\∃u,U'.H=H++u
def qfV(p)(h:VQ p)(hd:p.dists.length<=10000)(h1:p.hard=[])(h2:yg p=[])(H T):qf prog GG 54 [.agg (qA p)] ⟨H,T⟩ (qwS H T):=by
 refine qCN qe func54 rfl (by kernel_rfl) ?_;have hs:=Z6 p h hd;rw[h2]at hs;simp only[qA,h1]at hs;simp[h1];refine qCO hs (by simp) ?_;simp[show IntKind.i64.wrap 0=0 by decide,qz,yJ,qaa,zo,zU,kI,z0];exact⟨rfl,rfl,_,rfl⟩
noncomputable def wQ(p:Problem):List Int×Int :=
 if qk p=0 then(if jT p.vars (zI p)=true then((wh p.vars (zI p) (Jy p.soft)).reverse.map (·.1),0) else([],11)) else([],1)
def qlS(p)(h:VQ p)(hv:qk p≠0):Pure prog GG 53 [.agg (qA p)] (.tup [.sl 1 ((wQ p).1.map qq) .none,.int .i64 (wQ p).2]):=by
 have hr:wQ p=([],1):=if_neg hv;rw[hr];refine qCK o0 true qe func53 rfl (by kernel_rfl) ?_;have hval:=yw p h;simp only[qA]at hval;simp;refine qCO hval (by simp) ?_;simp[hv];rw[qS (by simp)];exact⟨by simp,by simp[Leq,zq]⟩
def qf5(p)(h:VQ p)(hv:qk p=0)(hv20:p.vars.length<=20)(hb:ku p.vars (qB p)<=18)(hd:p.dists.length<=10000)(hs:jT p.vars (zI p)=false):Pure prog GG 53 [.agg (qA p)] (.tup [.sl 1 ((wQ p).1.map qq) .none,.int .i64 (wQ p).2]):=by
 rw[show wQ p=([],11) by unfold wQ;rw[if_pos hv,hs,if_neg (by simp)]];refine qCK o0 true qe func53 rfl (by kernel_rfl) ?_;have hval:=yw p h;have hn:=YF p h hd;have hk:=Q4 h hv;have hfn:Fits (zI p):=by
  have h1:=h.hard;have h2:(yg p).length<=10000:=by
   have:yg p=w9 p:=if_pos hv
   rwa[this,w9,qzk]
  show(zI p).length<_;rw[zI,qyK];omega
 have hso:=Qv p (zI p) h hv20 hb hfn (fun e he=>(hk e (qzM _ he)).2);have hsb:Js p (zI p)=false:=by
  unfold Js;rw[hs];simp
 rw[hsb]at hso;generalize zI p=N at *;simp only[qA]at hval hn hso;simp;refine qCO hval (by simp) ?_;simp[hv];refine qCO hn (by simp) ?_;simp;refine qCO hso (by simp) ?_;simp;rw[qS (by simp)];exact⟨by simp,by simp[Leq,zq]⟩
def qio{α:Type}{en:α->List AV}{sz}{R:List α}{tok:Tok}{n}(hn:n=(R.length:Int))(h:R≠[]\/tok.known=true):zo (.sl sz (R.map en) tok) none (some (.int .i64 n)) (some (.int .i64 n))=some (.sl sz (R.map en) .tight):=by
 subst hn;simp[zo,zU,kI,z0,w7,show(R.map en).take R.length=R.map en from qyN (by simp),h.imp qyZ.2 id]
def Vp{R X H T}(hR:R.length<1000000):qL (Dof prog) ⟨H,T⟩ 23 (.sl 4 (R.map qt) .tight) (.sl 4 [qt X] .tight)=some (.sl 4 ((R++[X]).map qt) (.chain T.length 1),⟨H,T++[some 1]⟩):=by
 simp[qL,zK,show R.length+1<=549755813888 by omega]
def qeg(l):(Jy l).length=l.length:=by simp[Jy]
def qhY{l k q}(h:(Jy l)[k]?=some q):k<l.length/\q.1=((l.length-1-k:Nat):Int)/\l[l.length-1-k]?=some q.2:=by
 unfold Jy at h;have hk:=(qyF.1 h).1;simp at hk;rw[List.getElem?_reverse (by simpa using hk)]at h;simp only[qzk,List.length_zipIdx,qy7,qA7,qz9]at h
 cases hx:l[l.length-1-k]? with
 |none=>rw[hx]at h;simp at h
 |some x=>rw[hx]at h;simp at h;subst h;exact⟨hk,rfl,rfl⟩
def qsd{d m v}(h:d.length<m):(List.replicate (m-d.length) (0:Int)++d.reverse).set (m-1-d.length) v=List.replicate (m-(d.length+1)) 0++(d++[v]).reverse:=by
 have h1:List.replicate (m-d.length) (0:Int)=List.replicate (m-(d.length+1)) 0++[0]:=by
  rw[show m-d.length=(m-(d.length+1))+1 by omega,qBk]
 rw[h1,qze,qzO _ _ (by simp;omega)];rw[show m-1-d.length-(List.replicate (m-(d.length+1)) (0:Int)).length=0 by simp;omega];simp
def Zc{H n a r k z}(h1:zb (frz H n a)=true)(h2:Leq (frz H n a) r)(h3:zb a=true->Leq a r):
 zb (frz H (n+1) (.tup [a,.int k z]))=true/\Leq (frz H (n+1) (.tup [a,.int k z])) (.tup [r,.int k z]):=by
 by_cases hn:zb a=true
 . rw[qS (by simp[hn])];exact⟨by simp[hn],by simp[Leq,zq,h3 hn]⟩
 have:frz H (n+1) (.tup [a,.int k z])=.tup [frz H n a,.int k z]:=by
  have h0:frz H n (.int k z)=.int k z:=qS rfl;rw[frz,if_neg (by simp[hn])];simp[h0]
 rw[this];exact⟨by simp[h1],by simp[Leq,zq,h2]⟩
def qtI(p:Problem)(H:List Blk)(r:AV)(U':St):Prop:=∃tok u T',r=.sl 4 ((zI p).map qt) tok/\(zI p≠[]\/tok.known=true)/\U'=⟨H++u,T'⟩
def qfU(p)(h:VQ p)(hd:p.dists.length<=10000)(H T):qf prog GG 54 [.agg (qA p)] ⟨H,T⟩ (qtI p H):=by
 by_cases hN:zI p=[]
 . have h0:p.hard=[]/\yg p=[]:=(by rw[zI]at hN;simpa using hN);refine(qfV p h hd h0.1 h0.2 H T).imp ?_;rintro v ⟨H1,T1⟩ ⟨rfl,hT,u,hH⟩;simp only at hT hH;subst hH;exact⟨_,u,T1,by rw[hN];rfl,.inr rfl,rfl⟩
 refine qf.call (YF p h hd) (by simp) ?_;exact⟨.none,[],T,rfl,.inl hN,by simp⟩
def qka(p)(h:VQ p)(hv20:p.vars.length<=20)(hb:ku p.vars (qB p)<=18)(hd:p.dists.length<=10000)(hs5:p.soft.length<=10000):
 Pure prog GG 53 [.agg (qA p)] (.tup [.sl 1 ((wQ p).1.map qq) .none,.int .i64 (wQ p).2]):=by
 by_cases hv:qk p=0
 case neg=>exact qlS p h hv
 by_cases hs:jT p.vars (zI p)=true
 case neg=>exact qf5 p h hv hv20 hb hd (by simpa using hs)
 have hr:wQ p=((wh p.vars (zI p) (Jy p.soft)).reverse.map (·.1),0):=by unfold wQ;rw[if_pos hv,if_pos hs]
 rw[hr];dsimp only;obtain⟨RES,hRES⟩:∃RES,RES=(wh p.vars (zI p) (Jy p.soft)).reverse.map (·.1):=⟨_,rfl⟩;rw[<- hRES];refine qCK o0 true qe func53 rfl (by kernel_rfl) ?_;have hval:=yw p h;have hn:=YF p h hd;have hk:=Q4 h hv;have h1:=h.hard;have h2:(yg p).length<=10000:=by
  have:yg p=w9 p:=if_pos hv
  rwa[this,w9,qzk]
 have hNl:(zI p).length<=20000:=by rw[zI,qyK];omega
 have hso:=fun l (hl:l.length<40000) (hx:∀e∈l,vG p.vars e=true/\J1 e)=>Qv p l h hv20 hb (by show l.length<_;omega) (fun e he=>(hx e he).2)
 have hsb:∀l,(∀e∈l,vG p.vars e=true/\J1 e)->Js p l=jT p.vars l:=fun l hl=>by
  have:=qyP.2 fun e he=>(hl e he).1
  unfold Js;rw[this];simp[hv]
 have hne:=qfU p h hd [.cells (qA p)] [];unfold qtI at hne;have hso0:=hso (zI p) (by omega) (fun e he=>hk e (qzM _ he));rw[hsb _ (fun e he=>hk e (qzM _ he)),hs]at hso0;generalize zI p=N at *;generalize hL:Jy p.soft=L at *;have hLl:L.length=p.soft.length:=by rw[<- hL,qeg]
 simp only[qA]at hval hn hso0 hne hso;simp;refine qCO hval (by simp) ?_;simp[hv];refine qCQ hne ?_;rintro v U ⟨tok,u,T,rfl,htok,rfl⟩;simp;refine qc.pure hso0 (by cases tok<;>simp) (by cases tok<;>simp[zq,Leq,qCV]) ?_;have hw1:=wr (n:=(p.soft.length:Int)-1) (by omega) (by omega);simp[hw1];refine qC2 L (fun d ev U=>ev 1=.ptr 0 0/\ev 6=.int .i64 ((p.soft.length:Int)-1-d.length)/\∃R K tok u T,(∀r,L=d++r->wh p.vars N L=K++wh p.vars R r)/\(∀e∈R,vG p.vars e=true/\J1 e)/\R.length<=20000+d.length/\K.length<=d.length/\ev 4=.sl 4 (R.map qt) tok/\(R≠[]\/tok.known=true)/\KK 0 1 qq T (ev 5) (K.map (·.1))/\U=⟨.cells (qA p)::u,T⟩) ?_ ?_ ?_
 . refine⟨by simp,by simp,N,[],tok,u,T,fun r hr=>by rw[hr];rfl,fun e he=>hk e (qzM _ he),by simpa using hNl,by simp,by simp,htok,by simpa using KK.nil,by simp⟩
 . rintro d x rest ev U R0 hR hdl hx hlt ⟨e1,e6,R,K,tok2,u2,T2,hkeep,hRk,hRl,hKl,e4,htok2,e5,rfl⟩;have hna:=qhY (l:=p.soft) (k:=d.length) (q:=x) (by rwa[hL]);obtain⟨n1,n2,n3⟩:=hna;have e6':ev 6=.int .i64 ((p.soft.length-1-d.length:Nat):Int):=(by rw[e6];congr 1;omega);have hsl:=qio (en:=qt) (sz:=4) (R:=R) (tok:=tok2) rfl htok2;have hxk:=hk x.2 (qAs _ (qyG n3));have hRk2:∀e∈R++[x.2],vG p.vars e=true/\J1 e:=fun e he=>by
    rcases qy0.1 he with he|he
    . exact hRk e he
    rw[qzh]at he;rwa[he]
   have hso2:=hso (R++[x.2]) (by rw[qyK,qzd];omega) hRk2;rw[hsb _ hRk2]at hso2;have hap:=fun H T=>Vp (R:=R) (X:=x.2) (H:=H) (T:=T) (by omega)
   have ha:=wb x.2;have hl4:=zh x.2;have hnr:=qvX (R++[x.2]);simp only[qzE,qyR,qzj]at hnr;have htk:(qt x.2).take 4=qt x.2:=qyN (by rw[hl4];exact qyQ _);have hw2:=wr (n:=((p.soft.length-1-d.length:Nat):Int)-1) (by omega) (by omega);have hEx:=n2;generalize hI:p.soft.length-1-d.length=I at *;obtain⟨v5,T5,hap5,h5,hT5⟩:=(e5.ext (T':=T2++[some 1]) (qB0 _ _)).append (m:=[x.1]) (D:=Dof prog) (ty:=35) (tok:=.tight) (T0:=[]) (T:=T2++[some 1]) (List.nil_prefix) (D35) rfl (D3) rfl (by decide) (by rfl) (by decide) (by simp;omega) 1 (.inl rfl);simp only[qyR,qzj,qq]at hap5;simp[-qW,e1,e4,e6',show(0:Int)<=((p.soft.length-1-d.length:Nat):Int) by omega,hsl,n3,htk,ha,hl4,qj,qs,hap];refine qc.pure hso2 (by simp[hnr]) (by simp) ?_;have hIm:((I:Int)-1)=((p.soft.length:Int)-1-((d++[x]).length:Nat)):=(by rw[qyK,qzd];omega)
   cases hso3:jT p.vars (R++[x.2]) with
   | true=>
    simp[-qW,e6',qj,qs,show IntKind.i64.wrap (x.1-1)=(p.soft.length:Int)-1-((d.length:Int)+1) by rw[hEx,hw2,hIm,qyK,qzd];omega,<- hEx,hap5];refine hR _ _ ⟨by simp[e1],by simp,R++[x.2],K++[x],.chain T2.length 1,u2,T5,fun r hr=>?_,hRk2,by simp;omega,by simp;omega,by simp,.inl (by simp),by simpa using h5,rfl⟩;rw[hkeep (x::r) (by rw[hr];simp),wh,if_pos hso3];simp
   | false=>
    simp[-qW,e6',hw2];refine hR _ _ ⟨by simp[e1],by simp[hIm],R,K,tok2,u2,T2++[some 1],fun r hr=>?_,hRk,by simp;omega,by simp;omega,by simp[e4],htok2,by simpa using e5.ext (qB0 _ _),rfl⟩;rw[hkeep (x::r) (by rw[hr];simp),wh,if_neg (by rw[hso3];simp)]
 rintro ev U ⟨e1,e6,R,K,tok2,u2,T2,hkeep,hRk,hRl,hKl,e4,htok2,e5,rfl⟩;rw[hLl]at e6;have e6':ev 6=.int .i64 (-1):=by rw[e6];congr 1;omega
 have hK:=hkeep [] (by simp);rw[show wh p.vars R []=[] from rfl,qzp]at hK;rw[hK,List.map_reverse]at hRES;generalize hKI:K.map (·.1)=KI at *;have hKIl:KI.length<=10000:=by rw[<- hKI,qzk];omega
 subst hRES;rcases e5 with⟨rfl,e5⟩|⟨hne,t,_,e5,_⟩
 . simp[e6',e5,qz];refine qCR (fun m ev U=>ev 8=.sl 1 [] (.chain T2.length 0)/\ev 53=.int .i64 0/\ev 54=.int .i64 0) 0 ⟨by simp,by simp⟩ ?_;rintro m ev U R hR ⟨e8,e53,e54⟩;simp[e8,e53,e54];have hf:∀H,frz H 7 (.sl 1 [] (.chain T2.length 0))=.sl 1 [] .none:=fun H=>by rw[frz];simp[zb]
   exact Zc (by rw[hf];rfl) (by rw[hf];exact qCT _) (by simp)
 have hKn:¬(KI.length:Int)=0:=by have:=qyZ.2 hne;omega
 simp[e6',e5,qz,show(KI.length:Int)<=549755813888 by omega,hne];refine qC2 KI (fun d ev U=>ev 8=.ms (u2.length+1) 0 KI.length 1/\ev 52=.sl 1 (KI.map qq) (.chain t KI.length)/\ev 53=.int .i64 KI.length/\ev 54=.int .i64 d.length/\∃H T,U=⟨H,T⟩/\H[u2.length+1]?=some (.cells (zw (List.replicate (KI.length-d.length) 0++d.reverse)))) ?_ ?_ ?_
 . refine⟨by simp,by simp,by simp,by simp,_,_,rfl,?_⟩;simp[zw]
 . rintro d x rest ev U R hR hdl hx hlt ⟨e8,e52,e53,e54,H,T,rfl,hH⟩;have hdw:=wr (n:=(d.length:Int)+1) (by omega) (by omega);have hkw:=wr (n:=(KI.length:Int)-1) (by omega) (by omega);have hkw2:=wr (n:=(KI.length:Int)-1-d.length) (by omega) (by omega);have hI:((KI.length:Int)-1-d.length)=((KI.length-1-d.length:Nat):Int):=(by omega);have hlt3:KI.length-1-d.length<KI.length:=(by omega);have hlt4:KI.length-1-d.length+1<=KI.length:=(by omega);have hset:=wa (a:=List.replicate (KI.length-d.length) 0++d.reverse) (i:=KI.length-1-d.length) (x:=x);have hHl:=(qyF.1 hH).1;rw[qsd hlt]at hset;rw[hI]at hkw2;generalize hJ:KI.length-1-d.length=J at *;simp[-getElem?_pos,e8,e52,e53,e54,hlt,hx,hkw,hI,hkw2,hH,show(zw (List.replicate (KI.length-d.length) 0++d.reverse)).length=KI.length by rw[qY];simp;omega,hlt3,hlt4,hset,hdw];exact hR _ _ ⟨by simp[e8],by simp[e52],by simp[e53],by simp,_,_,rfl,by rw[qyK,qzd,qBs];exact qyL hHl⟩
 rintro ev U ⟨e8,e52,e53,e54,H,T,rfl,hH⟩;rw[qzU,qBU,qy2]at hH;simp[e8,e53,e54];have ho:jr (u2.length+1) 1 qq H (.ms (u2.length+1) 0 KI.length 1) KI.reverse:=.inr ⟨(by simpa using hne),by simp,by rw[hH,yE]⟩;have f1:=ho.frz (fun x=>by simp) (fun x=>by simp) (fun x=>by simp) 6;have f2:=ho.frzNo (fun x=>by simp) (fun x=>by simp) (fun x=>by simp) 6;rw[List.map_reverse]at f1;exact Zc f2 f1 (by simp)
def w6(vs:List Var)(q:List Int×Int)(i:Int):List Int×Int:=(q.1.set i.toNat q.2,q.2+zE vs i.toNat)
def wg(vs:List Var)(l:List Int):List Int×Int:=l.foldl (w6 vs) (List.replicate vs.length (-1),0)
def qE(p:Problem):List Int:=(wg p.vars p.groups.flatten).1
def Wp(vs l i):wg vs (l++[i])=w6 vs (wg vs l) i:=by simp[wg,qz5]
def Q8(vs):∀l:List Int,(wg vs l).1.length=vs.length:=by
 intro l;have:∀(l:List Int) (q:List Int×Int),(l.foldl (w6 vs) q).1.length=q.1.length:=by
  intro l
  induction l with
  |nil=>intro q;rfl
  |cons a r ih=>intro q;rw[qzm,ih];simp[w6]
 unfold wg;rw[this];simp
def jW{p}(h:qk p=0):jR p.vars p.groups:=by
 have hd:zy p.vars p.groups=0:=by
  unfold qk at h;split at h
  . exact absurd h (by assumption)
  split at h
  . rename_i h1;exact absurd h h1
  split at h
  . rename_i h1;exact absurd h h1
  exact h
 unfold zy at hd;split at hd
 . assumption
 cases hd
def Ym{vs}{i:Int}(h:yo vs i=true):∃(n:Nat) (v:Var),i=n/\vs[n]?=some v/\v.mode≠0:=by
 simp only[yo,qyJ,decide_eq_true_eq]at h;obtain⟨j,hj⟩:=qzg h.1;have h2:=h.2;rw[hj]at h2;simp only[qzt]at h2
 cases hv:vs[j]? with
 |none=>rw[hv]at h2;simp at h2
 |some v=>rw[hv]at h2;exact⟨j,v,hj,hv,by simpa using h2⟩
def qf0{vs}(hw:∀v∈vs,0<=v.width/\v.width<=8):∀l:List Int,0<=(wg vs l).2/\(wg vs l).2<=8*l.length:=by
 intro l;have:∀(l:List Int) (q:List Int×Int),0<=q.2->0<=(l.foldl (w6 vs) q).2/\(l.foldl (w6 vs) q).2<=q.2+8*l.length:=by
  intro l
  induction l with
  |nil=>intro q h;simp[h]
  | cons a r ih=>
   intro q h;have hwa:0<=zE vs a.toNat/\zE vs a.toNat<=8:=by
    unfold zE;split
    . rename_i v hv;exact hw v (qyG hv)
    omega
   have:=ih (w6 vs q a) (by simp only[w6];omega);rw[qzm];simp only[w6,qyY]at this⊢;omega
 have:=this l (List.replicate vs.length (-1),0) (qBY _);simpa[wg] using this
def YC:∀(n:Nat) (l:List Int),l.Nodup->(∀x∈l,0<=x/\x<n)->l.length<=n
 | 0,l,_,h=>by
  cases l with
  |nil=>simp
  |cons a r=>have:=h a (by simp);omega
 | n+1,l,hn,h=>by
  by_cases hm:(n:Int)∈l
  . have h1:=YC n (l.erase (n:Int)) (hn.erase _) fun x hx=>by
     have h2:=(hn.mem_erase_iff).1 hx;have:=h x h2.2;omega
    rw[List.length_erase_of_mem hm]at h1;omega
  have h1:=YC n l hn fun x hx=>by
   have:=h x hx;have h2:x≠(n:Int):=fun e=>hm (e▸hx)
   omega
  omega
def Wv{p}(h:qk p=0):p.groups.flatten.length<=p.vars.length:=YC _ _ (jW h).2.2.1 fun i hi=>by
 obtain⟨n,v,rfl,hn,_⟩:=Ym ((jW h).2.1 i hi);have:=(qyF.1 hn).1;omega
def qb9(p)(h:VQ p)(hv:qk p=0):Pure prog GG 38 [.agg (qA p)] (.sl 1 ((qE p).map qq) .none):=by
 refine qCK o0 true qe func38 rfl (by kernel_rfl) ?_;have hval:=yw p h;have hg:=jW hv;have hvars:=h.vars;have hw:∀v∈p.vars,0<=v.width/\v.width<=8:=fun v hm=>by have:=zc (ji hv v hm);omega
 obtain⟨LV,hLV⟩:∃LV,LV=qE p:=⟨_,rfl⟩;rw[<- hLV];simp only[qA]at hval;simp;refine qCO hval (by simp) ?_;by_cases hv0:p.vars=[]
 . have hg0:p.groups=[]:=by
    apply qBP.2;intro g hgm;have h1:=hg.1 g hgm;obtain⟨i,hi⟩:=List.exists_mem_of_ne_nil g h1;have:=hg.2.1 i (qzl.2 ⟨g,hgm,hi⟩);obtain⟨n,v,_,hn,_⟩:=Ym this;rw[hv0]at hn;simp at hn
   have hL0:LV=[]:=(by rw[hLV,qE,hg0,hv0];rfl);subst hL0;simp[hv,hv0,hg0,qz];refine qCR (fun m ev U=>ev 1=.ptr 0 0/\ev 3=.sl 1 [] (.chain 0 0)/\ev 18=.int .i64 0/\ev 19=.int .i64 0/\∃u T,U=⟨.cells (qA p)::u,T⟩) 0 ⟨by simp,by simp,by simp,by simp,_,_,by simp[hv0,hg0];exact⟨rfl,rfl⟩⟩ ?_;rintro m ev U R hR ⟨e1,e3,e18,e19,u,T,rfl⟩;simp[e1,e18,e19,hg0];refine qCR (fun m ev U=>ev 3=.sl 1 [] (.chain 0 0)/\ev 28=.int .i64 0/\ev 29=.int .i64 0) 0 ⟨by simp[e3],by simp⟩ ?_;rintro m ev U R hR ⟨e3,e28,e29⟩;simp[e3,e28,e29];have hf:∀H,frz H 8 (.sl 1 [] (.chain 0 0))=.sl 1 [] .none:=fun H=>by rw[frz];simp[zb]
   rw[hf];exact⟨rfl,qCT _⟩
 have hpos:=qyZ.2 hv0;simp[hv,hv0,show(p.vars.length:Int)<=549755813888 by omega,qz];have hfl:=qzs (Wv hv) hvars;have hgl:=h.groups;have hgf:=h.group;refine yF p.vars.length (fun i ev U=>ev 1=.ptr 0 0/\ev 3=.ms 1 0 p.vars.length 1/\ev 18=.int .i64 p.vars.length/\ev 19=.int .i64 (i:Int)/\U=⟨[.cells (qA p),.cells (zw (List.replicate i (-1)++List.replicate (p.vars.length-i) 0))],[]⟩) ?_ ?_ ?_
 . refine⟨by simp,by simp,by simp,by simp,?_⟩;simp[zw]
 . rintro i ev U R hR hi ⟨e1,e3,e18,e19,rfl⟩;have hw1:=wr (n:=(i:Int)+1) (by omega) (by omega);have hi1:i+1<=p.vars.length:=hi;have hll:(zw (List.replicate i (-1)++List.replicate (p.vars.length-i) 0)).length=p.vars.length:=(by rw[qY];simp;omega);have hset:(zw (List.replicate i (-1)++List.replicate (p.vars.length-i) 0)).set i (.int .i64 (-1))=zw (List.replicate (i+1) (-1)++List.replicate (p.vars.length-(i+1)) 0):=by
    rw[wa,qzO _ _ (by simp)];have:p.vars.length-i=(p.vars.length-(i+1))+1:=by omega
    rw[this,qBa];simp[qBk]
   simp[e3,e18,e19,show(i:Int)<p.vars.length by omega,hi1,hll,hset,hw1];exact hR _ _ ⟨by simp[e1],by simp[e3],by simp[e18],by simp⟩
 rintro ev U ⟨e1,e3,e18,e19,rfl⟩;rw[qzU,qBU,qzp];have hL0:(wg p.vars []).1=List.replicate p.vars.length (-1):=rfl;rw[<- hL0];simp[e1,e18,e19];refine qC2 p.groups (fun dn ev U=>ev 1=.ptr 0 0/\ev 3=.ms 1 0 p.vars.length 1/\ev 5=.int .i64 (wg p.vars dn.flatten).2/\ev 27=.sl 1 (p.groups.map zJ) .none/\ev 28=.int .i64 p.groups.length/\ev 29=.int .i64 dn.length/\U=⟨[.cells (qA p),.cells (zw (wg p.vars dn.flatten).1)],[]⟩) ?_ ?_ ?_
 . exact⟨by simp[e1],by simp[e3],by simp[wg],by simp⟩
 . rintro dn g rest ev U R hR hd hx hlt ⟨e1,e3,e5,e27,e28,e29,rfl⟩;have hdw:=wr (n:=(dn.length:Int)+1) (by omega) (by omega);have hgm:=qyG hx;have hgfit:=hgf g hgm;simp[e27,e28,e29,show(dn.length:Int)<p.groups.length by omega,hx];refine qC2 g (fun dg ev U=>ev 1=.ptr 0 0/\ev 3=.ms 1 0 p.vars.length 1/\ev 5=.int .i64 (wg p.vars (dn.flatten++dg)).2/\ev 27=.sl 1 (p.groups.map zJ) .none/\ev 28=.int .i64 p.groups.length/\ev 29=.int .i64 dn.length/\ev 33=.sl 1 (g.map qq) .none/\ev 34=.int .i64 g.length/\ev 35=.int .i64 dg.length/\U=⟨[.cells (qA p),.cells (zw (wg p.vars (dn.flatten++dg)).1)],[]⟩) ?_ ?_ ?_
   . exact⟨by simp[e1],by simp[e3],by simp[e5],by simp[e27],by simp[e28],by simp[e29],by simp⟩
   . rintro dg v rest2 ev U R2 hR2 hd2 hx2 hlt2 ⟨e1,e3,e5,e27,e28,e29,e33,e34,e35,rfl⟩;obtain⟨n,vr,rfl,hn,_⟩:=Ym (hg.2.1 v (qzl.2 ⟨g,hgm,qyG hx2⟩));have hnl:=(qyF.1 hn).1;have hdw2:=wr (n:=(dg.length:Int)+1) (by unfold Fits at hgfit;omega) (by unfold Fits at hgfit;omega);have hwv:=hw vr (qyG hn);have hpre:(dn.flatten++dg).length<=1000:=by
      have:(dn.flatten++dg).length<=p.groups.flatten.length:=by
       rw[hd,hd2];simp
      omega
     have hnx:=qf0 hw (dn.flatten++dg);have hww:=wr (n:=(wg p.vars (dn.flatten++dg)).2+vr.width) (by omega) (by omega);have hs:=Wp p.vars (dn.flatten++dg) (n:Int);have hln:=Q8 p.vars (dn.flatten++dg);simp only[w6,qzt,show zE p.vars n=vr.width by simp[zE,hn]]at hs;rw[qze]at hs;generalize hQ:wg p.vars (dn.flatten++dg)=q at *;obtain⟨L,nx⟩:=q;simp only at *;have hn1:n+1<=p.vars.length:=hnl;have hn0:(n:Int)<p.vars.length:=(by omega);simp[e1,e3,e5,e33,e34,e35,show(dg.length:Int)<g.length by omega,hx2,show(zw L).length=p.vars.length by rw[qY,hln],hn1,hn0,hn,wa,hww,hdw2];exact hR2 _ _ ⟨by simp[e1],by simp[e3],by simp[hs],by simp[e27],by simp[e28],by simp[e29],by simp[e33],by simp[e34],by simp,by simp[hs]⟩
   rintro ev U ⟨e1,e3,e5,e27,e28,e29,e33,e34,e35,rfl⟩;simp[e29,e34,e35,hdw];exact hR _ _ ⟨by simp[e1],by simp[e3],by simp[e5],by simp[e27],by simp[e28],by simp⟩
 rintro ev U ⟨e1,e3,e5,e27,e28,e29,rfl⟩;have hLL:(wg p.vars p.groups.flatten).1=LV:=hLV.symm;have hln:=Q8 p.vars p.groups.flatten;rw[hLL]at hln⊢;simp[e3,e28,e29];have hne2:LV≠[]:=fun e=>by rw[e]at hln;simp at hln;omega
 have ho:jr 1 1 qq [.cells (qA p),.cells (zw LV)] (.ms 1 0 p.vars.length 1) LV:=.inr ⟨hne2,by rw[hln],by rw[yE];rfl⟩;exact⟨ho.frzNo (fun x=>by simp) (fun x=>by simp) (fun x=>by simp) 7,ho.frz (fun x=>by simp) (fun x=>by simp) (fun x=>by simp) 7⟩
def ym{p}(h:qk p=0):(p.vars.map (·.name)).Nodup:=by
 have hv:zW p.vars=0:=by
  unfold qk at h;split at h
  . exact absurd h (by assumption)
  rename_i h1;exact qzB.1 h1
 have hd:qn8 p.vars=false:=by
  unfold zW at hv;split at hv
  . cases hv
  split at hv
  . rename_i h1;exact absurd hv h1
  split at hv
  . cases hv
  rename_i h1;simpa using h1
 unfold qn8 at hd;rw[qAg]at hd;refine qAM.2 fun i j hi hj hij e=>?_
 simp only[qzk]at hi hj;rw[qAe,qAe]at e;have:=hd j (qzP.2 hj);unfold vO at this;rw[qyH hj]at this;simp only[vK,qy8]at this;exact this ⟨p.vars[i],by rw[qB8];exact⟨i,by omega,rfl⟩,by simpa using e⟩
def qan{vs:List Var}{m U}(hm:U.H[m]?=some (vm vs))(hn:(vs.map (·.name)).Nodup){i:Nat}{v:Var}(hv:vs[i]?=some v):zl (Dof prog) U 184 (.map m) (.str v.name) true=some (.tup [.int .i64 (i:Int),.bool true]):=by
 have:=qdw hn hv 0;unfold vm at hm;generalize (vn vs).map Jd=E at *;simp[zl,hm,zt,this]
def qoP(p:Problem)(e)(hn:(p.vars.map (·.name)).Nodup)(hk:zi p.vars e=0)(ht:J1 e){H M}(hM:H[M]?=some (vm p.vars))(T):
 qf prog GG 176 [.map M,.agg (qt e)] ⟨H,T⟩ (fun r U'=>r=.int .i64 0/\KpL [] H U'.H):=by
 refine qCN qe func176 rfl (by kernel_rfl) ?_;have ha:=vR e ht.1 ht.2.2;have hna:=Q5 e ht.1 ht.2.2;have he:ze e=0/\Jq e=false/\QD p.vars e=false:=by
  unfold zi at hk;split at hk
  . rename_i h;exact absurd hk h
  rename_i h;split at hk
  . cases hk
  split at hk
  . cases hk
  rename_i h2 h3;exact⟨qzB.1 h,by simpa using h2,by simpa using h3⟩
 have h0:zH [3,24] e=[]:=by
  have:=Qe (e:=e);rw[he.2.1]at this
  cases hl:zH [3,24] e with
  |nil=>rfl
  |cons a r=>rw[hl]at this;simp at this
 have hall:∀s∈zH [2] e,∃(i:Nat) (v:Var),p.vars[i]?=some v/\v.name=s:=fun s hs=>by
  have:=v8 (l:=p.vars) (e:=e);rw[he.2.2,qAg]at this;have h1:=this s hs;simp only[qz4,Bool.not_eq_false,vK,qy8]at h1;obtain⟨v,hv,hvn⟩:=h1;obtain⟨i,hi⟩:=qzq hv;exact⟨i,v,hi,by simpa using hvn⟩
 have hfit:(zH [2] e).length<=100000:=YG ht.2.2;rw[h0]at ha;have henc:=qd e;rw[henc]at ha hna⊢;generalize zH [2] e=N at *;simp;refine qCO ha (by simp) ?_;simp;refine qCO hna (by simp) ?_;simp;refine qC2 N (fun d ev U=>ev 0=.map M/\ev 14=.sl 1 (N.map z8) .none/\ev 15=.int .i64 N.length/\ev 16=.int .i64 d.length/\KpL [] H U.H) ?_ ?_ ?_
 . exact⟨by simp,by simp,by simp,by simp,qDj⟩
 . rintro d s rest ev ⟨H1,T1⟩ R hR hd hx hlt ⟨e0,e14,e15,e16,hkp⟩;obtain⟨i,v,hi,hvn⟩:=hall s (qyG hx);have hl:=qan (U:=⟨H1,T1⟩) (hkp.2 _ _ hM (by simp)) hn hi;rw[hvn]at hl;have hdw:=wr (n:=(d.length:Int)+1) (by omega) (by omega);simp[e0,e14,e15,e16,show(d.length:Int)<N.length by omega,hx,hl,hdw];exact hR _ _ ⟨by simp[e0],by simp[e14],by simp[e15],by simp,hkp⟩
 rintro ev ⟨H1,T1⟩ ⟨e0,e14,e15,e16,hkp⟩;simp[e15,e16];exact hkp
def qll:List (Nat×Sch×List Nat):=[(7,.step 0 [7,3,2,1] (.step 1 [7,3,2] (.step 2 [7,3] (.step 3 [7] (.step 4 [7,5] (.step 5 [7] (.step 6 [7] (.step 7 [] (.done)))))))),[]),(9,.step 0 [8,7] (.step 1 [8,7,6,4,3,2] (.step 2 [8,7,6,4,3] (.step 3 [8,7,6,4] (.step 4 [8,7,6] (.step 5 [8,7,6] (.step 6 [8,7] (.step 7 [8] (.step 8 [] (.done))))))))),[6])]
def qx0(d:List Nd)(p:Problem)(H:List Blk)(r:AV)(U':St):Prop :=
 ∃B M,r=.tup [.ptr B 0,.int .i64 0]/\H.length<=B/\H.length<=M/\M≠B/\KpL [] H U'.H/\U'.H[B]?=some (.cells (.sl 3 (d.map qw) .none::(qA p++[.sl 1 ((qE p).map qq) .none,.map M])))/\U'.H[M]?=some (vm p.vars)
def qfi{vs:List Var}{i}{v:Var}(hv:vs[i]?=some v):vn (vs.take (i+1))=vn (vs.take i)++[(v.name,.int .i64 (i:Int),i)]:=by
 have hl:=(qyF.1 hv).1;unfold vn;rw[qzb,hv];simp[qBB,qAb (qCe hl)]
def qky{vs:List Var}(hn:(vs.map (·.name)).Nodup){i}{v:Var}(hv:vs[i]?=some v)(k):jz (.str v.name) ((vn (vs.take i)).map Jd) k=some none:=by
 have hl:=(qyF.1 hv).1;rcases QQ (s:=v.name) (vn (vs.take i)) k with⟨h1,_⟩|⟨j,q,h1,h2,_⟩
 . exact h1
 exfalso;obtain⟨w,hw,rfl⟩:=qdx h1;rw[qzD]at hw;split at hw
 . rename_i hj;obtain⟨hj1,hj2⟩:=qyF.1 hw;obtain⟨_,hi2⟩:=qyF.1 hv;have hp:=qAM.1 hn;have h2:w.name=v.name:=h2;exact hp j i (by simpa using hj1) (by simpa using hl) hj (by rw[qAe,qAe,hj2,hi2,h2])
 cases hw
def qkN(d)(hd:DagOk d)(p)(h:VQ p)(hv:qk p=0)(e)(hk:zi p.vars e=0)(ht:J1 e)(H T):
 qf prog GG 123 [.agg (zs d),.agg (qA p),.agg (qt e)] ⟨H,T⟩ (qx0 d p H):=by
 refine qCM ⟨false,qll,[],[]⟩ qe func123 rfl (by kernel_rfl) ?_;have hdv:=Kd d hd;have hpv:=yw p h;have hev:=Ya e ht.1 (by have:=ht.2.1;omega);have hlv:=qb9 p h hv;have hn:=ym hv;have he:ze e=0:=by
  unfold zi at hk;split at hk
  . rename_i h;exact absurd hk h
  rename_i h;exact qzB.1 h
 have hvl:=h.vars;have huse:=fun H M (hM:H[M]?=some (vm p.vars)) T=>qoP p e hn hk ht hM T
 rw[hv]at hpv;rw[he]at hev;generalize hLV:qE p=LV at *;rw[qd e]at hev huse⊢;simp only[zs]at hdv;simp only[qA]at hpv hlv;simp;refine qCO hdv (by simp) ?_;simp[unA];refine qCO hpv (by simp) ?_;simp;refine qCO hev (by simp) ?_;simp;rw[QC (by rfl)];simp;refine qCO hlv (by simp) ?_;simp[zp,zS,qG];refine qC2 p.vars (fun dn ev U=>ev 4=.ptr (H.length+1) 0/\ev 5=.ptr (H.length+2) 0/\ev 8=.ptr (H.length+4) 0/\ev 32=.sl 4 (p.vars.map qD) .none/\ev 33=.int .i64 p.vars.length/\ev 34=.int .i64 dn.length /\
  KpL [] H U.H/\U.H[H.length+1]?=some (.cells (qA p))/\U.H[H.length+2]?=some (.cells [.int .i64 e.op,.int .i64 e.n,.str e.name,.sl 4 (e.args.map qt) .none])/\U.H[H.length+3]?=some (.map ((vn (p.vars.take dn.length)).map Jd) dn.length) /\
  U.H[H.length+4]?=some (.cells (.sl 3 (d.map qw) .none::(qA p++[.sl 1 (LV.map qq) .none,.map (H.length+3)])))) ?_ ?_ ?_
 . refine⟨by simp,by simp,by simp,by simp,by simp,by simp,qDj,?_,?_,?_,?_⟩
   . exact lk1
   . exact lk2
   . exact lk3
   . exact lk4
 . rintro dn v rest ev ⟨H1,T1⟩ R hR hd hx hlt ⟨e4,e5,e8,e32,e33,e34,hkp,bP,bE,bM,bB⟩;have hdw:=wr (n:=(dn.length:Int)+1) (by omega) (by omega);have hf:=qky hn hx 0;have ht1:=qfi hx;have hMl:=(qyF.1 bM).1;have hup:∀(u:List Blk) (T:List (Option Nat)),q9 (Dof prog) ⟨H1++u,T⟩ 184 (.map (H.length+3)) (.str v.name) (.int .i64 (dn.length:Int))=some ⟨H1.set (H.length+3) (.map ((vn (p.vars.take (dn.length+1))).map Jd) (dn.length+1))++u,T⟩:=fun u T=>by
    rw[ht1,qzE];generalize (vn (p.vars.take dn.length)).map Jd=E at *;simp[q9,qa bM,zt,hf,yO bM,Jd]
   generalize hE2:(vn (p.vars.take (dn.length+1))).map Jd=E2 at *;simp only[qA,qy3,qy2]at bB;simp[e32,e33,e34,show(dn.length:Int)<p.vars.length by omega,hx];rw[qJ rfl];simp[qX,e8,e34,qa bB,hup,hdw];refine hR _ _ ⟨by simp[e4],by simp[e5],by simp[e8],by simp[e32],by simp[e33],by simp,(hkp.setF (by omega)).trans qDj,qa (by rw[qyI (by omega)];exact bP) _,qa (by rw[qyI (by omega)];exact bE) _,?_,qa (by rw[qyI (by omega)];exact bB) _⟩;rw[qyK,qzd,hE2];exact qa (qyL hMl) _
 rintro ev ⟨H1,T1⟩ ⟨e4,e5,e8,e32,e33,e34,hkp,bP,bE,bM,bB⟩;rw[qAJ]at bM;have bM':=bM;have bB':=bB;simp only[qA,qy3,qy2]at bB;simp[e33,e34];rw[qJ rfl];simp[qX,e5,e8,bB,bE];refine qCQ (huse H1 (H.length+3) bM' T1) ?_;rintro v ⟨H2,T2⟩ ⟨rfl,hk2⟩;simp[qX];exact⟨H.length+4,H.length+3,rfl,by omega,by omega,by omega,hkp.trans hk2,by rw[hLV];exact hk2.2 _ _ bB' (by simp),hk2.2 _ _ bM' (by simp)⟩
def yN(vs:List Var)(l:List Int):Int:=(l.map fun i=>zE vs i.toNat).sum
def KX(vs l i):yN vs (l++[i])=yN vs l+zE vs i.toNat:=by simp[yN]
def Zt{vs}(hw:∀v∈vs,0<=v.width)(n):0<=zE vs n:=by
 unfold zE;split
 . rename_i v hv;exact hw v (qyG hv)
 omega
def JI{vs}(hw:∀v∈vs,0<=v.width):∀l:List Int,0<=yN vs l
 |[]=>by simp[yN]
 | a::r=>by
  have:=JI hw r;have:=Zt hw a.toNat;simp only[yN,qyR,qA4]at *;omega
def qax(vs l m):yN vs (l++m)=yN vs l+yN vs m:=by simp[yN]
def KW{vs}(hw:∀v∈vs,0<=v.width)(l k):yN vs (l.take k)<=yN vs l:=by
 have h1:=qax vs (l.take k) (l.drop k);rw[qzA]at h1;have:=JI hw (l.drop k);omega
def qek{vs}{l:List Int}(hl:∀i∈l,∃n:Nat,i=n/\n<vs.length)(hnd:l.Nodup):∀m,m<=l.length->(wg vs (l.take m)).2=yN vs (l.take m)/\∀k (i:Int),k<m->l[k]?=some i->(wg vs (l.take m)).1[i.toNat]?=some (yN vs (l.take k))
 |0,_=>⟨by simp[wg,yN],fun k i h=>by omega⟩
 | m+1,hm=>by
  obtain⟨ih1,ih2⟩:=qek hl hnd m (by omega);obtain⟨j,hj⟩:∃j,l[m]?=some j:=⟨_,qyH (by omega)⟩;have ht:l.take (m+1)=l.take m++[j]:=by rw[qzb,hj];rfl
  obtain⟨n,rfl,hn⟩:=hl j (qyG hj);have hlen:=Q8 vs (l.take m);rw[ht,Wp,KX];refine⟨by simp only[w6,ih1],fun k i hk hi=>?_⟩;simp only[w6,qzt];by_cases hkm:k=m
  . subst hkm;rw[hj]at hi;cases hi;rw[qzt,qyL (by omega),ih1]
  obtain⟨n2,rfl,hn2⟩:=hl i (qyG hi);have hne:n≠n2:=by
   rintro rfl;have hp:=qAM.1 hnd;obtain⟨a1,a2⟩:=qyF.1 hj;obtain⟨b1,b2⟩:=qyF.1 hi;exact hp k m b1 a1 (by omega) (by rw[a2,b2])
  rw[qzt,qyI hne];exact ih2 k _ (by omega) hi
def qav{f:Int->Int}:∀{l:List Int}{a:Int},a∈l->((l.erase a).map f).sum+f a=(l.map f).sum
 | x::r,a,h=>by
  rw[List.erase_cons];split
  . rename_i hx;have:x=a:=by simpa using hx
    subst this;simp;omega
  rename_i hx;have hx:¬x=a:=by simpa using hx
  have h2:a∈r:=(qy9.1 h).resolve_left (Ne.symm hx);have:=qav (f:=f) h2;simp;omega
def qcv{f:Int->Int}(hf:∀i,0<=f i):∀(n:Nat) (l:List Int),l.Nodup->(∀x∈l,0<=x/\x<n)->(l.map f).sum<=((List.range n).map fun k:Nat=>f k).sum
 | 0,l,_,h=>by
  cases l with
  |nil=>simp
  |cons a r=>have:=h a (by simp);omega
 | n+1,l,hn,h=>by
  rw[qAc,qzE,List.sum_append];simp only[qyR,qzj,qA4,qCB];by_cases hm:(n:Int)∈l
  . have h1:=qcv hf n (l.erase (n:Int)) (hn.erase _) fun x hx=>by
     have h2:=(hn.mem_erase_iff).1 hx;have:=h x h2.2;omega
    have:=qav (f:=f) hm;omega
  have h1:=qcv hf n l hn fun x hx=>by
   have:=h x hx;have h2:x≠(n:Int):=fun e=>hm (e▸hx)
   omega
  have:=hf n;omega
def qpb(vs:List Var)(i:Int):Int:=if yo vs i=true then zE vs i.toNat else 0
def qjE:∀(vs),((List.range vs.length).map fun k:Nat=>qpb vs k).sum=j5 vs:=by
 have gen:∀(vs pre:List Var),((List.range' pre.length vs.length).map fun k:Nat=>qpb (pre++vs) k).sum=j5 vs:=by
  intro vs
  induction vs with
  |nil=>intro pre;rfl
  | cons v r ih=>
   intro pre;have:=ih (pre++[v]);rw[qze,qAq,qyK,qzd]at this;rw[qyY,qAI,qyR,qA4,this];simp only[j5];congr 1;simp only[qpb,yo,zE,qzt,show(pre++v::r)[pre.length]?=some v by rw[qyO (qyQ _),qzU];rfl];by_cases hm:v.mode=0<;>simp[hm]
 intro vs;have:=gen vs []
 rwa[qzH,<- qAB,qy2]at this
def qfl{p}(h:qk p=0):j5 p.vars<=20:=by
 have hv:zW p.vars=0:=by
  unfold qk at h;split at h
  . exact absurd h (by assumption)
  rename_i h1;exact qzB.1 h1
 unfold zW at hv;split at hv
 . cases hv
 split at hv
 . rename_i h1;exact absurd hv h1
 split at hv
 . cases hv
 split at hv
 . cases hv
 split at hv
 . cases hv
 omega
def JR{p}(h:qk p=0):∀i∈p.groups.flatten,∃n:Nat,i=n/\n<p.vars.length:=fun i hi=>by
 obtain⟨n,v,rfl,hn,_⟩:=Ym ((jW h).2.1 i hi);exact⟨n,rfl,(qyF.1 hn).1⟩
def vT{p}(h:qk p=0):∀v∈p.vars,0<=v.width:=fun v hm=>by have:=zc (ji h v hm);omega
def YZ{p}(h:qk p=0):yN p.vars p.groups.flatten<=20:=by
 have h1:=qcv (f:=qpb p.vars) (fun i=>by unfold qpb;split;exact Zt (vT h) _;omega) p.vars.length p.groups.flatten (jW h).2.2.1 (fun i hi=>by
  obtain⟨n,rfl,hn⟩:=JR h i hi;omega)
 rw[qjE]at h1;have h2:=qfl h;have h3:(p.groups.flatten.map (qpb p.vars)).sum=yN p.vars p.groups.flatten:=by
  unfold yN;congr 1;exact qzW fun i hi=>by unfold qpb;rw[if_pos ((jW h).2.1 i hi)]
 omega
def yW(p):(qE p).length=p.vars.length:=Q8 p.vars _
def YL{p:Problem}(h:qk p=0){k:Nat}{n:Nat}(hk:p.groups.flatten[k]?=some (n:Int)):(qE p)[n]?=some (yN p.vars (p.groups.flatten.take k)):=by
 have h1:=(qek (JR h) (jW h).2.2.1 p.groups.flatten.length (qyQ _)).2 k _ (qyF.1 hk).1 hk
 rwa[qAJ,qzt]at h1
def qhD{p:Problem}(h:qk p=0){n:Nat}{v:Var}(hv:p.vars[n]?=some v)(hm:v.mode≠0):∃k:Nat,p.groups.flatten[k]?=some (n:Int):=by
 have:=(jW h).2.2.2 n (qyF.1 hv).1 (by simp[yo,hv,hm]);exact qzq this
def qih{p:Problem}(h:qk p=0):∀(i:Nat) (v:Var) (l:Int),p.vars[i]?=some v->(qE p)[i]?=some l->v.mode≠0->0<=l/\l+v.width<=20:=fun i v l hv hl hm=>by
 obtain⟨k,hk⟩:=qhD h hv hm;have h1:=YL h hk;rw[hl]at h1;cases h1;have h2:=JI (vT h) (p.groups.flatten.take k);have h3:=KW (vT h) p.groups.flatten (k+1);rw[show p.groups.flatten.take (k+1)=p.groups.flatten.take k++[(i:Int)] by rw[qzb,hk];rfl,KX]at h3;have h5:zE p.vars (i:Int).toNat=v.width:=by simp[zE,hv]
 have h6:=YZ h;omega
def qrX(W):(Instr.typeAssert .nilIface 20 231 true).run prog W=.ok (.tuple #[.agg #[.int .i64 0],.bool false]) W:=by kernel_rfl
def qrW(W v):(Instr.typeAssert (.iface 231 v) 20 231 true).run prog W=.ok (.tuple #[v,.bool true]) W:=by kernel_rfl
def Zn(B x y)(older:List PanicEntry)(w)(hp:B<w.heap.size)(hc:w.cell? ⟨B,0,none⟩=some x)(hz:w.frozen? ⟨B,0,none⟩=false):
 CallsD prog 177 #[.pointer (some ⟨B,0,none⟩)] (.panicking ({v:=.iface 231 (.agg #[.int .i64 y]),recovered:=false}::older)) w fun e u' w'=>
  e=.returned (.tuple #[])/\u'=.panicking ({v:=.iface 231 (.agg #[.int .i64 y]),recovered:=true}::older)/\w'=(w.alloc (.cells #[.int .i64 y] 231)).setCell ⟨B,0,none⟩ (.int .i64 y):=by
 refine callsD_of_wpS func177 rfl fun c₀ cs hu=>?_
 apply wpS_seq;apply wpS_region;simp[wpOpsS,go_sem,recoverD,hu,Tryz.ntmps177,Exit.thenS];apply wpS_seq;apply wpS_region;simp[wpOpsS,go_sem,recoverD,Exit.thenS,qrW];apply wpS_seq;apply wpS_region;simp[wpOpsS,go_sem,Exit.thenS];refine wpS_cond (t:=true) (by simp[Act.eval,Array.replicate]) ?_;simp only[if_true];apply wpS_region;simp[wpOpsS,go_sem,recoverD,bodyPostS,results,Tryz.results177,hz,frozen?_alloc_cells,World.cell?_alloc_past _ _ _ hp];rw[hc];simp[Result.andThen_ok,go_sem]
def VN(p:Addr)(w):
 CallsD prog 177 #[.pointer (some p)] .returning w fun e u' w'=>e=.returned (.tuple #[])/\u'=.returning/\w'=w.alloc (.cells #[.int .i64 0] 231):=by
 refine callsD_of_wpS func177 rfl fun c₀ cs hu=>?_
 apply wpS_seq;apply wpS_region;simp[wpOpsS,go_sem,recoverD,hu,Tryz.ntmps177,Exit.thenS];apply wpS_seq;apply wpS_region;simp[wpOpsS,go_sem,recoverD,hu,Exit.thenS,qrX];apply wpS_seq;apply wpS_region;simp[wpOpsS,go_sem,Exit.thenS];refine wpS_cond (t:=false) (by simp[Act.eval,Array.replicate]) ?_;simp only[qy4,if_false];apply wpS_seq;apply wpS_region;simp[wpOpsS,go_sem,recoverD,Exit.thenS];refine wpS_cond (t:=false) (by simp[Act.eval,Array.replicate]) ?_;simp only[qy4,if_false];refine wpS_of_wp (wp_skip ?_);cases c₀;simp_all[bodyPostS,results,Tryz.results177]
def qgu{G H:Glo}(hG:H.g=G.g){Q R:AV->St->Prop}{f:Nat}{first cap:List AV}{U:St}
 (h:qf prog H f (first++cap) (U.push (.cells [.int .i64 0])) R)
 (hR:∀v τ,R v τ->(∃x,τ.H[U.H.length]?=some (.cells [x]))/\Q (.int .i64 0) ⟨τ.H.set U.H.length (.cells [.int .i64 0])++[.cells [.int .i64 0]],τ.T⟩)
 (hX:∀c τ,H.X c τ->(∃x,τ.H[U.H.length]?=some (.cells [x]))/\∃k,c=[{v:=.iface 231 (.agg #[.int .i64 k]),recovered:=false}]/\Q (.int .i64 k) ⟨τ.H.set U.H.length (.cells [.int .i64 k])++[.cells [.int .i64 k]],τ.T⟩):
 qf prog G 124 [.fn f first cap] U Q:=by
 refine⟨by kernel_rfl,fun w0 ro0 K w vs hw hvs=>?_⟩;simp only[qh]at hvs;obtain⟨v0,vr,e0,⟨va,vb,rfl,ha,hb⟩,rfl⟩:=hvs;have evs:vs = #[.func (.func f) va vb]:=by apply Array.ext';simpa using e0
 subst evs
 go_enter_defers func124,Tryz.ntmps124
 go_wp2
 rw[Z0 h.1,Oper.upon_enter];have hw1:WRel H.g w0 ro0 (K.addM U.H.length w.heap.size (jI (.cells #[.int .i64 0] 30))) (U.push (.cells [.int .i64 0])) (w.alloc (.cells #[.int .i64 0] 30)):=by
  rw[hG];exact hw.push ⟨#[.int .i64 0],30,rfl,by simp,by simp,fun i a e=>by
   cases i with
   |zero=>simp at e;subst e;exact⟨_,rfl,by simp[qg]⟩
   |succ i=>simp at e⟩
 have hle1:=qCZ hw w.heap.size (jI (.cells #[.int .i64 0] 30));generalize hK1:K.addM U.H.length w.heap.size (jI (.cells #[.int .i64 0] 30))=K1 at hw1 hle1;have hm1:K1.m U.H.length=some w.heap.size:=by rw[<- hK1];simp[Kn.addM]
 have hp1:qg K1 (.ptr U.H.length 0) (.pointer (some ⟨w.heap.size,0,none⟩)):=by simp only[qg];exact⟨_,hm1,rfl⟩
 have hvs1:qh K1 (first++cap) (va++vb).toList:=by
  rw[Array.toList_append];exact(qh.mono hle1 _ ha).append (qh.mono hle1 _ hb)
 refine Calls.mono (h.2 w0 ro0 K1 _ _ hw1 hvs1) ?_;rintro e w' (⟨v',v,τ,K2,rfl,k1,k2,k3,k4⟩|⟨c,τ,K2,rfl,k1,k2,k3⟩)
 . obtain⟨⟨x,hx⟩,hq⟩:=hR v τ k4;have hm2:K2.m U.H.length=some w.heap.size:=k1.m _ _ hm1;rw[hG]at k2;obtain⟨w2,hst,hw2⟩:=Qu (P:=prog) (t:=30) (x:=.int .i64 0) (x':=.int .i64 0) k2 (hp1.mono k1) (by simp[qg]) (U':=⟨τ.H.set U.H.length (.cells [.int .i64 0]),τ.T⟩) (by simp[KZ,hx,D30]);obtain⟨B',g1,g2,g3,⟨cs,el,g4,g5,g6,g7⟩,g8⟩:=k2.blk _ _ hx;rw[hm2]at g1;cases g1;obtain⟨xv,hxv,_⟩:=g7 0 x rfl;have hc:w'.cell? ⟨w.heap.size,0,none⟩=some xv:=(by simp[World.cell?,g4,hxv]);have hz:w'.frozen? ⟨w.heap.size,0,none⟩=false:=by simp[World.frozen?,g4]
   go_wp2
   have e2:w'.setCell ⟨w.heap.size,0,none⟩ (.int .i64 0)=w2:=by
    have:=hst;simp[Instr.storeAt,go_sem,hc,hz]at this;exact this
   rw[e2];have hw3:=hw2.push (b:=.cells [.int .i64 0]) (o:=.cells #[.int .i64 0] 231) ⟨#[.int .i64 0],231,rfl,by simp,by simp,fun i a e=>by
    cases i with
    |zero=>simp at e;subst e;exact⟨_,rfl,by simp[qg]⟩
    |succ i=>simp at e⟩
   have hle3:=qCZ hw2 w2.heap.size (jI (.cells #[.int .i64 0] 231));have hnl:=(qyF.1 hx).1;have hcell:(w2.alloc (.cells #[.int .i64 0] 231)).cell? ⟨w.heap.size,0,none⟩=some (.int .i64 0):=by
    obtain⟨B',q1,q2,q3,⟨cs,el,q4,q5,q6,q7⟩,q8⟩:=hw3.blk U.H.length (.cells [.int .i64 0]) (by simp only[St.push];rw[qyT (by simpa using hnl),qyL hnl]);rw[hle3.m _ _ hm2]at q1;cases q1;obtain⟨v,h1,h2⟩:=q7 0 _ rfl;simp only[qg]at h2;subst h2;simp[World.cell?,q4,h1]
   refine leaves_cons (f:=177) (args:=#[.pointer (some ⟨w.heap.size,0,none⟩)]) (by simp) (by simp[go_sem]) ?_;refine(VN ⟨w.heap.size,0,none⟩ _).mono ?_;rintro e u' w'' ⟨rfl,rfl,rfl⟩;simp[Leaves,settle,results,Tryz.results124,go_sem,hcell];exact⟨_,_,_,qC4 hle1 (qC4 k1 hle3),hw3,by simp[qg],hq⟩
 obtain⟨⟨x,hx⟩,k,rfl,hq⟩:=hX c τ k3;have hm2:K2.m U.H.length=some w.heap.size:=k1.m _ _ hm1;rw[hG]at k2;obtain⟨B',g1,g2,g3,⟨cs,el,g4,g5,g6,g7⟩,g8⟩:=k2.blk _ _ hx;rw[hm2]at g1;cases g1;obtain⟨xv,hxv,_⟩:=g7 0 x rfl;have hc:w'.cell? ⟨w.heap.size,0,none⟩=some xv:=by simp[World.cell?,g4,hxv]
 have hz:w'.frozen? ⟨w.heap.size,0,none⟩=false:=by simp[World.frozen?,g4]
 have hnl:=(qyF.1 hx).1;have hw3:=k2.push (b:=.cells [.int .i64 k]) (o:=.cells #[.int .i64 k] 231) ⟨#[.int .i64 k],231,rfl,by simp,by simp,fun i a e=>by
  cases i with
  |zero=>simp at e;subst e;exact⟨_,rfl,by simp[qg]⟩
  |succ i=>simp at e⟩
 have hle3:=qCZ k2 w'.heap.size (jI (.cells #[.int .i64 k] 231));obtain⟨w2,hst,hw4⟩:=Qu (P:=prog) (t:=30) (x:=.int .i64 k) (x':=.int .i64 k) hw3 (hp1.mono (qC4 k1 hle3)) (by simp[qg]) (U':=⟨τ.H.set U.H.length (.cells [.int .i64 k])++[.cells [.int .i64 k]],τ.T⟩)
  (by simp[KZ,qyT hnl,hx,D30,List.set_append_left _ _ hnl,St.push])
 have e2:(w'.alloc (.cells #[.int .i64 k] 231)).setCell ⟨w.heap.size,0,none⟩ (.int .i64 k)=w2:=by
  have:=hst;simp[Instr.storeAt,go_sem,hz,frozen?_alloc_cells,World.cell?_alloc_past _ _ _ g3]at this;rw[hc]at this;simpa[Result.andThen_ok,go_sem] using this
 have hcell:w2.cell? ⟨w.heap.size,0,none⟩=some (.int .i64 k):=by
  obtain⟨B',q1,q2,q3,⟨cs,el,q4,q5,q6,q7⟩,q8⟩:=hw4.blk U.H.length (.cells [.int .i64 k]) (by simp only;rw[qyT (by simpa using hnl),qyL hnl]);rw[hle3.m _ _ hm2]at q1;cases q1;obtain⟨v,h1,h2⟩:=q7 0 _ rfl;simp only[qg]at h2;subst h2;simp[World.cell?,q4,h1]
 simp only[Exit.then];refine leaves_cons (f:=177) (args:=#[.pointer (some ⟨w.heap.size,0,none⟩)]) (by simp) (by simp[go_sem]) ?_;refine(Zn w.heap.size xv k [] _ g3 hc hz).mono ?_;rintro e u' w'' ⟨rfl,rfl,rfl⟩;rw[e2];simp[Leaves,settle,results,Tryz.results124,go_sem,hcell];exact⟨_,_,_,qC4 hle1 (qC4 k1 hle3),hw4,by simp[qg],hq⟩
def Wq{p e}(hk:zi p.vars e=0)(ht:J1 e):qgF p e/\ze e=0:=by
 have he:ze e=0/\Jq e=false/\QD p.vars e=false:=by
  unfold zi at hk;split at hk
  . rename_i h;exact absurd hk h
  rename_i h;split at hk
  . cases hk
  split at hk
  . cases hk
  rename_i h2 h3;exact⟨qzB.1 h,by simpa using h2,by simpa using h3⟩
 refine⟨fun x hx=>?_,he.1⟩;have hn:=Z9 he.1 x hx;have h1:=he.2.1;have h2:=he.2.2;rw[Jq,qAg]at h1;rw[QD,qAg]at h2;have h1:=h1 x hx;have h2:=h2 x hx;refine⟨hn,fun h=>h1 (by simp[h]),fun h=>h1 (by simp[h]),fun h=>?_,?_⟩
 . cases hh:vK p.vars x.name with
   |true=>rfl
   |false=>exact absurd (by simp[h,hh]) h2
 have ho:=(jk hn).2.2.2.2.1;unfold qi at ho;split at ho
 . simp only[decide_eq_true_eq]at ho;omega
 simp only[decide_eq_true_eq]at ho;unfold zm at ho
 repeat' split at ho
 all_goals omega
def qlk:List (Nat×Sch×List Nat):=[(0,.step 1 [5,4,3] (.step 2 [5,4,3] (.fork (.cons 0 (.step 3 [5,4] (.step 4 [5] (.step 5 [] (.done)))) (.cons 3 (.step 0 [5,4] (.step 4 [5] (.step 5 [] (.done)))) (.nil))))),[3,4])]
def InQ(c:Bc)(d:List Nd)(p3:Nat)(H:List Blk)(v:(Nat->Bool)->Bool)(r:AV)(U':St):Prop :=
 ∃d' t H1,U'.H=H1.set p3 (.cells [.int .i64 (t:Nat)])/\p3<H1.length/\BX c H d' H1/\qU d d'/\t<d'.length/\∀b,evD d' b t=v b
def qet{c d H T}(h:BX c H d H){p lv}(hp:PB p lv c)(e)(he:qgF p e){p1 p2 p3}(b1:H[p1]?=some (.cells [.ptr c.B 0]))(b2:H[p2]?=some (.cells (qt e))){x}(b3:H[p3]?=some (.cells [x]))(h3:p3≠c.B)(h1:p1≠c.B):
 qf prog (XG c) 125 [.ptr p1 0,.ptr p2 0,.ptr p3 0] ⟨H,T⟩ (InQ c d p3 H fun b=>!decide (yG (ki p.vars (Qd p.vars lv b)) e=0)):=by
 refine qCM ⟨false,qlk,[],[]⟩ qe func125 rfl (by kernel_rfl) ?_;have hw:=fun T=>qox hp e he d H T h
 rw[qd e]at b2 hw;simp;rw[qJ rfl];simp[qX,b1,b2];refine⟨qCQ (hw T) ?_,qCQ (hw T) ?_⟩
 all_goals
  rintro v ⟨H2,T2⟩ ⟨d2,W,rfl,hxx2,hg2,hW,hv2⟩;have hx2:=h.call hxx2;have c1:=hxx2.loc b1 h1;have c3:=hxx2.loc b3 h3;simp[qX,c1];refine qCQ (vU hx2.self hW) ?_;rintro v ⟨H3,T3⟩ ⟨d3,t,rfl,hxx3,hg3,ht3,hv3⟩;dsimp only at hv3;have hx3:=hx2.call hxx3;have e3:=hxx3.loc c3 h3;have hl3:=(qyF.1 e3).1;dsimp only at e3 hl3;simp[qX,e3];refine⟨d3,t,H3,rfl,hl3,hx3,hg2.trans hg3,ht3,fun b=>?_⟩;rw[hv3,vt];have:=hv2 b;unfold zP at this;rw[this]
def qln:List (Nat×Sch×List Nat):=[(8,.step 0 [7,6,5,3,2,1] (.step 1 [7,6,5,3,2] (.step 2 [7,6,5,3] (.step 3 [7,6,5] (.fork (.cons 4 (.step 5 [7,6] (.step 6 [7] (.step 7 [] (.done)))) (.cons 5 (.step 4 [7,6] (.step 6 [7] (.step 7 [] (.done)))) (.nil))))))),[])]
def qxQ(d:List Nd)(H:List Blk)(v:(Nat->Bool)->Bool)(r:AV)(U':St):Prop :=
 KpL [] H U'.H/\(r=.tup [.agg [.sl 0 [] .nil],.int .i64 0,.int .i64 2] \/
  ∃d' t tok,r=.tup [.agg [.sl 3 (d'.map qw) tok],.int .i64 (t:Nat),.int .i64 0]/\qU d d'/\DagOk d'/\t<d'.length/\∀b,evD d' b t=v b)
def qx1(B p3:Nat)(d:List Nd)(E:List Blk)(v:(Nat->Bool)->Bool)(r:AV)(U':St):Prop :=
 KpL [B,p3] E U'.H/\(r=.int .i64 2\/(r=.int .i64 0/\∃d' t tok rest,U'.H[p3]?=some (.cells [.int .i64 (t:Nat)])/\U'.H[B]?=some (.cells (.sl 3 (d'.map qw) tok::rest))/\qU d d'/\DagOk d'/\t<d'.length/\∀b,evD d' b t=v b))
def qtv{d}(hd:DagOk d){p}{LV:List Int}(hle:LV.length=p.vars.length)(hvl:p.vars.length<=1000)(hvars:∀v∈p.vars,jK v=0)(hnd:(p.vars.map (·.name)).Nodup)
 (hlo:∀(i:Nat) (v:Var) (l:Int),p.vars[i]?=some v->LV[i]?=some l->v.mode≠0->0<=l/\l+v.width<=20) {E B M p1 p2 p3 e x val}
 (bB:E[B]?=some (.cells (.sl 3 (d.map qw) .none::(qA p++[.sl 1 (LV.map qq) .none,.map M])))) (bM:E[M]?=some (vm p.vars)) (hMB:M≠B)
 (b1:E[p1]?=some (.cells [.ptr B 0])) (b2:E[p2]?=some (.cells (qt e))) (b3:E[p3]?=some (.cells [x])) (h1:p1≠B) (h3:p3≠B) (hbl:qgF p e)
 (hval:∀b,(!decide (yG (ki p.vars (Qd p.vars LV b)) e=0))=val b) (T):
 qf prog GG 124 [.fn 125 [] [.ptr p1 0,.ptr p2 0,.ptr p3 0]] ⟨E,T⟩ (qx1 B p3 d E val):=by
 obtain⟨E0,hE0⟩:∃E0,E0=E++[Blk.cells [.int .i64 0]]:=⟨_,rfl⟩;obtain⟨c,hc⟩:∃c:Bc,c=⟨B,M,qA p++[.sl 1 (LV.map qq) .none,.map M],vm p.vars,E0⟩:=⟨_,rfl⟩;have hcB:c.B=B:=by rw[hc]
 have hcM:c.M=M:=by rw[hc]
 have hcr:c.rest=qA p++[.sl 1 (LV.map qq) .none,.map c.M]:=by rw[hc]
 have hcm:c.mp=vm p.vars:=by rw[hc]
 have hcH:c.H0=E0:=by rw[hc]
 have hBl:=(qyF.1 bB).1;have hMl:=(qyF.1 bM).1;have h3l:=(qyF.1 b3).1;have hEl:E0.length=E.length+1:=by rw[hE0];simp
 have la:∀{k:Nat} {x:Blk},E[k]?=some x->E0[k]?=some x:=fun {k x} hq=>by rw[hE0];exact qa hq _
 have hcell:E0[E.length]?=some (.cells [.int .i64 0]):=by rw[hE0];simp
 have hbx:BX c E0 d E0:=⟨⟨.none,by rw[hcB,hcr,hcM];exact la bB⟩,by rw[hcM,hcm];exact la bM,hd,by rw[hcH];exact qDh,qDh,by rw[hcM,hcB];exact hMB,by omega,by omega,by rw[hcH];exact qyQ _⟩;have hii:=qet (T:=T) hbx (⟨hcr,hcm,hle,hvl,hvars,hnd,hlo⟩) e hbl (p1:=p1) (p2:=p2) (p3:=p3) (by rw[hcB];exact la b1) (la b2) (la b3) (by omega) (by omega);simp only[hval]at hii;have hkE:∀{bs:List Nat} {H2:List Blk},KpL bs E0 H2->KpL bs E H2:=fun {bs H2} hk=>qDi (by rw[hE0];exact qDj) hk
 refine qgu (G:=Jx GG) (H:=XG c) rfl (R:=InQ c d p3 E0 fun b=>val b) (by rw[show(St.push ⟨E,T⟩ (.cells [.int .i64 0]))=⟨E0,T⟩ by rw[hE0];rfl];exact hii) ?_ ?_
 . rintro v ⟨Hv,Tv⟩ ⟨d',t,H1,hH,hp3,hx,hg,htl,hv⟩;dsimp only at hH;have hq:=hx.kp.2 _ _ hcell (by simp;omega);obtain⟨tok,hb⟩:=hx.b;rw[hcB]at hb;refine⟨⟨_,by dsimp only;rw[hH,qyI (by omega)];exact hq⟩,?_,.inr ⟨rfl,d',t,tok,c.rest,?_,?_,hg,hx.ok,htl,hv⟩⟩
   . dsimp only;rw[hH];have h1:=hkE hx.kp;rw[hcB]at h1;exact(((h1.sub (by simp)).trans (qDk (by simp))).setF (qyQ _)).trans qDj
   . dsimp only;rw[hH];refine qa ?_ _;rw[qyI (by omega)];exact qyL hp3
   dsimp only;rw[hH];refine qa ?_ _
   rwa[qyI (by omega),qyI (by omega)]
 rintro cs ⟨Hv,Tv⟩ ⟨rfl,hk⟩;dsimp only at hk⊢;rw[hcH,hcB]at hk;have hq:=hk.2 _ _ hcell (by simp;omega);refine⟨⟨_,hq⟩,2,rfl,?_,.inl rfl⟩;exact(((hkE hk).sub (by simp)).setF (qyQ _)).trans qDj
def qnb(d)(hd:DagOk d)(p)(h:VQ p)(hv:qk p=0)(e)(hk:zi p.vars e=0)(ht:J1 e)(H T):
 qf prog GG 79 [.agg (zs d),.agg (qA p),.agg (qt e)] ⟨H,T⟩ (qxQ d H fun b=>!decide (yG (ki p.vars (Qd p.vars (qE p) b)) e=0)):=by
 refine qCM ⟨false,qln,[],[]⟩ qe func79 rfl (by kernel_rfl) ?_;have hst:=fun H T=>qkN d hd p h hv e hk ht H T
 obtain⟨hbl,hve⟩:=Wq hk ht;have henc:=qd e;simp only[zs]at hst;rw[henc]at hst⊢;obtain⟨val,hval⟩:∃val:(Nat->Bool)->Bool,∀b,(!decide (yG (ki p.vars (Qd p.vars (qE p) b)) e=0))=val b:=⟨_,fun _=>rfl⟩;simp only[hval];have hin:=fun {c:Bc} {H:List Blk} {T:List (Option Nat)} (hx:BX c H d H) (hp:PB p (qE p) c) {p1 p2 p3:Nat} (b1:H[p1]?=some (.cells [.ptr c.B 0])) (b2:H[p2]?=some (.cells (qt e))) {x:AV} (b3:H[p3]?=some (.cells [x])) (h3:p3≠c.B) (h1:p1≠c.B)=>qet (T:=T) hx hp e hbl b1 b2 b3 h3 h1
 simp only[hval]at hin;have hvars:=ji hv;have hnd:=ym hv;have hle:=yW p;have hlo:=qih hv;have hvl:=h.vars;generalize hLV:qE p=LV at *;simp only[qA]at hst;simp;refine qCQ (hst _ _) ?_;rintro v ⟨H1,T1⟩ ⟨B,M,rfl,hB,hM,hMB,hkp,bB,bM⟩;rw[hLV]at bB;dsimp only at hkp bB bM;simp;have hBl:=(qyF.1 bB).1;have hMl:=(qyF.1 bM).1;have hHl:=hkp.1;have bE:H1[H.length+2]?=some (.cells (qt e)):=by
  refine hkp.2 _ _ ?_ (by simp);rw[henc];exact lk2
 simp at hB hM;refine qCQ (qtv hd hle hvl hvars hnd hlo (E:=H1++[.cells [.ptr B 0],.cells [.int .i64 0]]) (B:=B) (M:=M) (p1:=H1.length) (p2:=H.length+2) (p3:=H1.length+1) (qa bB _) (qa bM _) hMB lk0 (qa bE _) lk1 (by omega) (by omega) hbl hval T1) ?_;rintro v ⟨H2,T2⟩ ⟨hk2,hr⟩;have cR:=hk2.2 _ _ (qa (hkp.2 _ _ lk3 (by simp)) _) (by simp;omega);have cRl:=(qyF.1 cR).1;have hkH:KpL [] H H2:=⟨by have:=hk2.1;simp at this;omega,fun k x hk _=>by
  have hkl:=(qyF.1 hk).1;exact hk2.2 _ _ (qa (hkp.2 _ _ (qa hk _) (by simp)) _) (by simp;omega)⟩
 rcases hr with rfl|⟨rfl,d2,t,tok,rest,q1,q2,q3,q4,q5,q6⟩
 . simp[-getElem?_pos,zp,zS,cR,cRl];exact⟨hkH.setF (by omega),.inl rfl⟩
 have c9:=hk2.2 _ _ (lk0 (H:=H1) (p:=Blk.cells [.ptr B 0]) (t:=[.cells [.int .i64 0]])) (by simp;omega);simp;rw[qJ rfl];simp[-getElem?_pos,qX,c9,q1,q2,cR,cRl];have hq1:(H2.set (H.length+3) (.cells [.sl 3 (d2.map qw) tok]))[H1.length+1]?=some (.cells [.int .i64 (t:Int)]):=by
  rw[qyI (by omega)];exact q1
 simp[hq1,cRl];exact⟨hkH.setF (by omega),.inr ⟨d2,t,tok,rfl,q3,q4,q5,q6⟩⟩
def qgq{p e a}(hb:qgF p e)(hl:a.length=p.vars.length)(hn:(p.vars.map (·.name)).Nodup):wy (ki p.vars a) e=true:=by
 unfold wy;rw[qyP];intro x hx;obtain⟨h1,h3,h24,h2,_⟩:=hb x hx;unfold qru;by_cases h:x.op=2
 . have hv:=h2 h;unfold vK at hv;rw[qy8]at hv;obtain⟨v,hm,hvn⟩:=hv;obtain⟨i,hi⟩:=qzq hm;have hil:=(qyF.1 hi).1;obtain⟨y,hy⟩:∃y,a[i]?=some y:=⟨_,qyH (by omega)⟩;have:=vL hn hi hy;unfold ki;rw[if_pos h,if_pos hl,<- show v.name=x.name by simpa using hvn,this];rfl
 rw[if_neg h,if_neg (by omega)]
def qmm{p:Problem}{e a}(hk:zi p.vars e=0)(ht:J1 e)(hl:a.length=p.vars.length)(hn:(p.vars.map (·.name)).Nodup):yu (ki p.vars a) e=yG (ki p.vars a) e:=by
 obtain⟨h1,h2⟩:=Wq hk ht;unfold yu;rw[if_pos ⟨h2,qgq h1 hl hn⟩]
def qx2(H:List Blk)(v:(Nat->Bool)->Bool)(r:AV)(U':St):Prop :=
 KpL [] H U'.H/\(r=.tup [.agg [.sl 0 [] .nil],.int .i64 0,.int .i64 2] \/
  ∃d t tok,r=.tup [.agg [.sl 3 (d.map qw) tok],.int .i64 (t:Nat),.int .i64 0]/\DagOk d/\t<d.length/\∀b,evD d b t=v b)
def qji:DagOk [(20,0,0),(20,1,1)]:=⟨by simp,by simp,rfl,rfl,fun i n h hi=>by
 have:=(qyF.1 hi).1;simp at this;omega,by simp⟩
def qtO(p)(h:VQ p)(hv:qk p=0)(l)(hf:l.length<=1000000)(hx:∀e∈l,zi p.vars e=0/\J1 e)(H T):
 qf prog GG 40 [.agg (qA p),.sl 4 (l.map qt) .none] ⟨H,T⟩ (qx2 H fun b=>j9 p.vars l (Qd p.vars (qE p) b)):=by
 refine qCN qe func40 rfl (by kernel_rfl) ?_;have hnd:=ym hv;have hll:=yW p;obtain⟨val,hval⟩:∃val:Ex->(Nat->Bool)->Bool,∀e b,(!decide (yG (ki p.vars (Qd p.vars (qE p) b)) e=0))=val e b:=⟨_,fun _ _=>rfl⟩;have hres:∀b,j9 p.vars l (Qd p.vars (qE p) b)=l.all fun e=>val e b:=fun b=>by
  unfold j9;apply qzz.2;rw[qyP,qyP];refine forall_congr' fun e=>imp_congr_right fun he=>?_
  rw[qmm (hx e he).1 (hx e he).2 (JZ hll b) hnd,<- hval];simp
 simp only[hres];have htr:=fun d (hd:DagOk d) e (he:e∈l) H T=>qnb d hd p h hv e (hx e he).1 (hx e he).2 H T
 simp only[hval]at htr;simp only[qA,zs]at htr;have hnew:=qnI;simp only[zs]at hnew;simp;refine qCO hnew rfl ?_;simp;refine qC2 l (fun dn ev U=>ev 1=.sl 4 (l.map qt) .none/\ev 2=.ptr H.length 0/\ev 4=.ptr (H.length+1) 0/\ev 7=.ptr (H.length+2) 0/\ev 15=.sl 4 (l.map qt) .none/\ev 16=.int .i64 l.length/\ev 17=.int .i64 dn.length /\
  KpL [] H U.H/\U.H[H.length]?=some (.cells (qA p))/\U.H[H.length+1]?=some (.cells [.sl 0 [] .nil])/\∃d t tok,ev 8=.int .i64 (t:Nat)/\U.H[H.length+2]?=some (.cells [.sl 3 (d.map qw) tok])/\DagOk d/\t<d.length/\∀b,evD d b t=dn.all fun e=>val e b) ?_ ?_ ?_
 . refine⟨by simp,by simp,by simp,by simp,by simp,by simp,by simp,qDj,?_,?_,[(20,0,0),(20,1,1)],1,.none,by simp,?_,qji,by simp,fun b=>qda qji b⟩
   . exact lk0
   . exact lk1
   . exact lk2
 . rintro dn e rest ev ⟨H1,T1⟩ R hR hd hxe hlt ⟨e1,e2,e4,e7,e15,e16,e17,hkp,bP,b4,d,t,tok,e8,b7,hdk,htl,hv1⟩;dsimp only at hkp bP b4 b7;have hem:=qyG hxe;have hdw:=wr (n:=(dn.length:Int)+1) (by omega) (by omega);have htr1:=fun H T=>(htr d hdk e hem H T)
   have henc:=qd e;rw[henc]at htr1;have h7l:=(qyF.1 b7).1;have h4l:=(qyF.1 b4).1;simp only[qA]at bP;simp[e2,e7,e15,e16,e17,show(dn.length:Int)<l.length by omega,hxe,henc,qa b7,qa bP];refine qCQ ((htr1 _ _).leq (args:=[.agg [.sl 3 (d.map qw) tok],_,_]) (by simp[zq,Leq,qCV])) ?_;rintro v ⟨H2,T2⟩ ⟨hk2,hr⟩;dsimp only at hk2;have up:∀{k:Nat} {x:Blk},H1[k]?=some x->H2[k]?=some x:=fun {k x} hq=>hk2.2 _ _ (qa hq _) (by simp)
   have hkH2:=hkp.trans (qDj.trans hk2);have c4:=up b4;have c4l:=(qyF.1 c4).1;rcases hr with rfl|⟨d2,f,tok2,rfl,hg2,hd2,hf2,hv2⟩
   . simp[e4,zp,zS,qa c4,yO c4];have:(H2.set (H.length+1) (.cells [.sl 0 [] .nil])++[.cells [.sl 0 [] .nil]])[H.length+1]?=some (.cells [.sl 0 [] .nil]):=qa (qyL c4l) _;simp[this];exact⟨(hkH2.setF (by omega)).trans qDj,.inl rfl⟩
   simp[e8];refine qCQ ((qof d2 hd2 t f (qyV htl hg2.len) hf2 _ _).leq (args:=[.agg [.sl 3 (d2.map qw) tok2],.int .i64 t,.int .i64 f]) (by simp[zq,Leq,qCV])) ?_;rintro v ⟨H3,T3⟩ ⟨hk3,hr3⟩;dsimp only at hk3;have up3:∀{k:Nat} {x:Blk},H1[k]?=some x->H3[k]?=some x:=fun {k x} hq=>hk3.2 _ _ (qa (up hq) _) (by simp)
   have hkH3:=hkH2.trans (qDj.trans hk3);have b11:=hk3.2 _ _ (lk0 (H:=H2) (p:=Blk.cells [.sl 3 (d2.map qw) tok2]) (t:=[])) (by simp);have b11l:=(qyF.1 b11).1;have hH2l:=hkH2.1;have c4:=up3 b4;have c7:=up3 b7;have cP:=up3 bP;have c4l:=(qyF.1 c4).1;have hH12:H1.length<=H2.length:=(by have:=hk2.1;simp at this;omega);rcases hr3 with rfl|⟨d3,i3,t3,rfl,g3,hd3,hi3,_,hs3⟩
   . have hc4:∀y,(H3.set H2.length y)[H.length+1]?=some (.cells [.sl 0 [] .nil]):=fun y=>by rw[qyI (by omega)];exact c4
     simp[e4,b11,zp,zS,hc4];have:∀y,((H3.set H2.length y).set (H.length+1) (.cells [.sl 0 [] .nil]))[H.length+1]?=some (.cells [.sl 0 [] .nil]):=fun y=>qyL (by simpa using c4l)
     simp[this];exact⟨(hkH3.setF (by omega)).setF (by omega),.inl rfl⟩
   have hc7:∀y,(H3.set H2.length y)[H.length+2]?=some (.cells [.sl 3 (d.map qw) tok]):=fun y=>by rw[qyI (by omega)];exact c7
   simp[e7,e17,b11,hc7,show ∀y,(H3.set H2.length y)[H2.length]?=some y from fun y=>qyL b11l,hdw];refine hR _ _ ⟨by simp[e1],by simp[e2],by simp[e4],by simp[e7],by simp[e15],by simp[e16],by simp,(hkH3.setF (by omega)).setF (by omega),?_,?_,d3,i3,_,by simp,qyL (by simp;have:=(qyF.1 c7).1;omega),hd3,hi3,fun b=>?_⟩
   . rw[qyI (by omega),qyI (by omega)];exact cP
   . rw[qyI (by omega),qyI (by omega)];exact c4
   rw[hs3];show(evD d2 b t&&evD d2 b f)=_;rw[hg2.ev hdk b htl,hv1,hv2,qAa];simp
 rintro ev ⟨H1,T1⟩ ⟨e1,e2,e4,e7,e15,e16,e17,hkp,bP,b4,d,t,tok,e8,b7,hdk,htl,hv1⟩;have h4l:=(qyF.1 b4).1;simp[-getElem?_pos,e4,e7,e8,e16,e17,b7,b4,h4l];exact⟨hkp.setF (by omega),.inr ⟨d,t,tok,rfl,hdk,htl,hv1⟩⟩
def qxv(p:Problem)(H:List Blk)(r:AV)(U':St):Prop:=KpL [] H U'.H/\((zI p=[]/\r=.sl 4 [] .tight)\/∃b,zI p≠[]/\r=.ms b 0 (zI p).length 4/\U'.H[b]?=some (.cells ((zI p).flatMap qt))/\H.length<=b)
def qxL{α:Type}{H:List α}{p q:α}:(H++[p,q])[H.length+1]?=some q:=by rw[qyO (by omega),qzF];rfl
def qr3(b N k)(h:k<N):zo (.ms b 0 N 4) (some (.int .i64 (k:Int))) none none=some (.ms b (k*4) (N-k) 4):=by
 show(if(0:Int)<=k/\(k:Int)<=N/\(N:Int)<=N/\((k:Int)=0\/(k:Int)<N) then some (AV.ms b (0+(k:Int).toNat*4) ((N:Int).toNat-(k:Int).toNat) 4) else if(k:Int)=N/\(N:Int)=N then some (.sl 4 [] .none) else none)=_;rw[if_pos ⟨by omega,by omega,by omega,by omega⟩];simp
def qo4(b N)(h:0<N):zo (.ms b 0 N 4) (some (.int .i64 (N:Int))) none none=some (.sl 4 [] .none):=by
 show(if(0:Int)<=N/\(N:Int)<=N/\(N:Int)<=N/\((N:Int)=0\/(N:Int)<N) then some (AV.ms b (0+(N:Int).toNat*4) ((N:Int).toNat-(N:Int).toNat) 4) else if(N:Int)=N/\(N:Int)=N then some (.sl 4 [] .none) else none)=_;rw[if_neg (by omega),if_pos ⟨rfl,rfl⟩]
def Wo(p)(h:VQ p)(hd:p.dists.length<=10000)(H T):qf prog GG 54 [.agg (qA p)] ⟨H,T⟩ (qxv p H):=by
 refine qCM ⟨true,[],[],[]⟩ qe func54 rfl (by kernel_rfl) ?_;have hs:=Z6 p h hd;have hh:=h.hard;have hsl:(yg p).length<=10000:=by
  unfold yg;split
  . simp[w9,hd]
  simp
 have hn:zI p=p.hard++yg p:=rfl;generalize yg p=S at *;obtain⟨Q,hQ⟩:∃Q,Q=qxv p H:=⟨_,rfl⟩;rw[<- hQ];have fin0:p.hard++S=[]->∀u T',Q (.sl 4 [] .tight) ⟨H++u,T'⟩:=fun he u T'=>by rw[hQ];exact⟨qDj,.inl ⟨by rw[hn,he],rfl⟩⟩
 have kZ:p.hard++S≠[]->∀(B0:Blk) (T':List (Option Nat)),Q (.ms (H.length+1) 0 (p.hard.length+S.length) 4) ⟨H++[B0,.cells ((p.hard++S).flatMap qt)],T'⟩:=fun he B0 T'=>by
  rw[hQ];refine⟨qDj,.inr ⟨H.length+1,by rw[hn];exact he,by rw[hn,qyK],?_,by omega⟩⟩;rw[hn];exact qxL
 simp only[qA]at hs;have hw:=wr (n:=(p.hard.length:Int)+S.length) (by omega) (by omega);by_cases h0:p.hard=[]/\S=[]
 . obtain⟨h1,h2⟩:=h0;subst h2;have fin0:=fin0 (by rw[h1];rfl);rw[h1]at hs hw;simp[h1];refine qCO hs (by simp) ?_;simp[show IntKind.i64.wrap 0=0 by decide,mkX,qz,yJ,qaa,zo,zU,kI,z0];exact fin0 _ _
 have hpos:0<p.hard.length+S.length:=by
  rcases qzV (p.hard.length+S.length) with h|h
  . exact absurd ⟨qyX (by omega),qyX (by omega)⟩ h0
  exact h
 have hne2:p.hard++S≠[]:=by simpa using h0
 have kZ:=kZ hne2;have hnz:¬(p.hard.length:Int)+S.length=0:=by omega
 have hle:(p.hard.length:Int)+S.length<=549755813888:=by omega
 have hge:(0:Int)<=(p.hard.length:Int)+S.length:=by omega
 have htn:((p.hard.length:Int)+S.length).toNat=p.hard.length+S.length:=by omega
 have hmk:∀U:St,mkX (Dof prog) true U 23 (.int .i64 ((p.hard.length:Int)+S.length)) (.int .i64 ((p.hard.length:Int)+S.length))=none:=fun U=>by
  have:∀z:Int,z≠0->mkX (Dof prog) true U 23 (.int .i64 z) (.int .i64 z)=none:=fun z hz=>by
   unfold mkX;split
   . rename_i h1 _;simp at h1;exact absurd h1.2 hz
   rfl
  exact this _ hnz
 obtain⟨Z,hZ⟩:∃Z,Z=(List.replicate (p.hard.length+S.length) [AV.int .i64 0,.int .i64 0,.str [],.sl 0 [] .nil]).flatten:=⟨_,rfl⟩;have hZl:Z.length=(p.hard.length+S.length)*4:=by rw[hZ];simp
 have hAl:=Go.Abs.jf (sz:=4) zh p.hard;have h2:=qaV (p.hard.flatMap qt) (S.flatMap qt) Z (by rw[hZl,hAl,Go.Abs.jf (sz:=4) zh S,qzr]);rw[hAl,<- List.flatMap_append]at h2;have ls:∀(B0 C D:Blk),(H++[B0,C]).set (H.length+1) D=H++[B0,D]:=fun B0 C D=>by rw[qzO _ _ (by omega),qzF];rfl
 have hc1:∀B0:Blk,yJ (Dof prog) ⟨H++[B0,.cells Z],T⟩ 23 (.ms (H.length+1) 0 (p.hard.length+S.length) 4) (.sl 4 (p.hard.map qt) .none)=some (.int .i64 p.hard.length,⟨H++[B0,.cells (zj Z 0 (p.hard.flatMap qt))],T⟩):=fun B0=>by
  by_cases hh0:p.hard=[]
  . simp[yJ,qaa,hh0,zj]
  have hm:min p.hard.length (p.hard.length+S.length)=p.hard.length:=by omega
  have hl:p.hard.length*4<=(p.hard.length+S.length)*4:=by omega
  simp[yJ,qaa,qnw,hm,hh0,show(p.hard.map qt).take p.hard.length=p.hard.map qt from qyN (by simp),show(p.hard.map qt).flatten=p.hard.flatMap qt by rw[qAv],hZl,hl,ls]
 by_cases hS0:S=[]
 . subst hS0;have hhp:0<p.hard.length:=(by simpa using hpos);have hsl2:=qo4 (H.length+1) p.hard.length hhp;have hpa:zj Z 0 (p.hard.flatMap qt)=p.hard.flatMap qt:=putAt_all _ _ (by rw[hZl,hAl];simp);rw[hpa]at hc1;simp only[qzH,qz8,qz1,Int.add_zero]at hw hnz hle hge htn hZ hc1 hmk;simp only[qzj]at hs;simp only[qzp,qzH,qz8]at kZ;generalize p.hard.flatMap qt=FE at *;simp;refine qCO hs (by simp) ?_;simp[hw,hle,hge,qyZ.1 hhp,hmk,qz,<- hZ,hc1,hsl2,show ∀U:St,yJ (Dof prog) U 23 (.sl 4 [] .none) (.sl 4 [] .none)=some (.int .i64 0,U) from fun U=>by simp[yJ,qaa]];exact kZ _ _
 have hSp:=qyZ.2 hS0;have hsl2:zo (.ms (H.length+1) 0 (p.hard.length+S.length) 4) (some (.int .i64 p.hard.length)) none none=some (.ms (H.length+1) (p.hard.length*4) S.length 4):=by
  rw[qr3 _ _ _ (by omega),show p.hard.length+S.length-p.hard.length=S.length by omega]
 have hc2:∀B0:Blk,yJ (Dof prog) ⟨H++[B0,.cells (zj Z 0 (p.hard.flatMap qt))],T⟩ 23 (.ms (H.length+1) (p.hard.length*4) S.length 4) (.sl 4 (S.map qt) .none)=some (.int .i64 S.length,⟨H++[B0,.cells ((p.hard++S).flatMap qt)],T⟩):=fun B0=>by
  simp[yJ,qaa,qnw,hS0,show(S.map qt).take S.length=S.map qt from qyN (by simp),show(S.map qt).flatten=S.flatMap qt by rw[qAv],show(zj Z 0 (p.hard.flatMap qt)).length=(p.hard.length+S.length)*4 by rw[Yr,hZl],show p.hard.length*4+S.length*4<=(p.hard.length+S.length)*4 by omega,-List.flatMap_append,h2,ls]
 generalize (p.hard++S).flatMap qt=FE at *;generalize zj Z 0 (p.hard.flatMap qt)=Z1 at *;generalize p.hard++S=PS at *;simp;refine qCO hs (by simp) ?_;simp[hw,hnz,hle,hge,hmk,qz,htn,<- hZ,hc1,hsl2,hc2];exact kZ hne2 _ _
def qeF{α:Type}{sz:Nat}{en:α->List AV}(hl:∀x,(en x).length=sz):∀{l:List α}{i:Nat}{v:α},l[i]?=some v->((l.flatMap en).drop (i*sz)).take sz=en v
 |[],i,v,h=>by simp at h
 | a::r,0,v,h=>by
  simp at h;subst h;rw[qy5,qAl,qzX,qzL (by rw[hl];exact qyQ _),qyN (by rw[hl];exact qyQ _)]
 | a::r,i+1,v,h=>by
  have ih:=qeF hl (l:=r) (i:=i) (v:=v) (by simpa using h);have e:(i+1)*sz=sz+i*sz:=by rw[qA8,qAt]
  rw[qy5,e,qAy,qzf (by rw[hl];omega),hl,qy2,qzF,ih]
def qoq(b:Nat)(H:List Blk)(v:AV)(l:List Ex):Prop:=(l=[]/\v=.sl 4 [] .tight)\/(l≠[]/\v=.ms b 0 l.length 4/\H[b]?=some (.cells (l.flatMap qt)))
def qoq.append{b H T v l}(h:qoq b H v l)(x)(hl:l.length<=1000000):
 ∃H',zn (Dof prog) ⟨H,T⟩ 23 23 v (.sl 4 [qt x] .tight)=some (.ms H.length 0 (l.length+1) 4,⟨H',T⟩)/\qoq H.length H' (.ms H.length 0 (l.length+1) 4) (l++[x])/\(∀(k) (y),H[k]?=some y->(l=[]\/k≠b)->H'[k]?=some y)/\H.length<=H'.length:=by
 rcases h with⟨rfl,rfl⟩|⟨hne,rfl,hb⟩
 . refine⟨H++[.cells (qt x)],?_,?_,fun k y hk _=>qa hk _,by simp⟩
   . simp[zn,zZ,KA,qP]
   . exact .inr ⟨by simp,by simp⟩
 have h1:l.length+1<=549755813888:=by omega
 have hfl:=Go.Abs.jf (sz:=4) zh l;have hle:l.length*4<=(l.flatMap qt).length:=by omega
 refine⟨H.set b .dead++[.cells (l.flatMap qt++qt x)],?_,?_,fun k y hk hkb=>?_,by simp⟩
 . rw[hfl]at hle;simp[zn,zZ,KA,qP,hb,h1,show(l.flatMap qt).take (l.length*4)=l.flatMap qt from qyN (by omega),hfl]
 . exact .inr ⟨by simp,by simp⟩
 exact qa (by rw[qyI (Ne.symm (hkb.resolve_left hne))];exact hk) _
def qoq.len{b H v l}(h:qoq b H v l)(U):JO (Dof prog) U 23 v=some (.int .i64 (l.length:Nat)):=by
 rcases h with⟨rfl,rfl⟩|⟨_,rfl,_⟩<;>simp
def YO(vs):∀(L) (R),∀q∈wh vs R L,q∈L
 |[],R,q,h=>by simp[wh]at h
 | x::r,R,q,h=>by
  unfold wh at h;split at h
  . rcases qy9.1 h with rfl|h
    . simp
    . exact qAk _ (YO vs r _ q h)
  exact qAk _ (YO vs r _ q h)
def YP(vs):∀(L) (R),(wh vs R L).length<=L.length
 |[],R=>by simp[wh]
 | x::r,R=>by
  unfold wh;split
  . have:=YP vs r (R++[x.2]);simp;omega
  have:=YP vs r R;simp;omega
def qlA{l q}(h:q∈Jy l):∃k:Nat,q.1=k/\l[k]?=some q.2:=by
 obtain⟨k,hk⟩:=qzq h;obtain⟨_,h2,h3⟩:=qhY hk;exact⟨_,h2,h3⟩
def qip{p q}(h:q∈ZE p):∃k:Nat,q.1=k/\p.soft[k]?=some q.2:=qlA (YO _ _ _ q (by simpa[ZE] using h))
def qeo(p):(ZE p).length<=p.soft.length:=by
 unfold ZE;rw[List.length_reverse];exact qzs (YP _ _ _) (by rw[qeg];exact qyQ _)
noncomputable def ql(p:Problem):List Ex×Int :=
 if qk p=0 then(if jT p.vars (zI p)=true then(qhC p,0) else([],11)) else([],1)
def vW(p):(ql p).2=(wQ p).2:=by
 unfold ql wQ;split
 . split<;>rfl
 rfl
def QV{p}(h:(wQ p).2=0):qk p=0/\jT p.vars (zI p)=true/\ql p=(zI p++(ZE p).map (·.2),0)/\(wQ p).1=(ZE p).map (·.1):=by
 unfold wQ at h;split at h
 . rename_i hv;split at h
   . rename_i hs;have hn:zI p=qcQ p:=by
      show p.hard++yg p=_;rw[yg,if_pos hv];rfl
     refine⟨hv,hs,?_,?_⟩
     . unfold ql qhC;rw[if_pos hv,if_pos hs,hn]
     unfold wQ ZE;rw[if_pos hv,if_pos hs,hn]
   simp at h
 simp at h
def qdr(p)(h:VQ p)(hv20:p.vars.length<=20)(hb:ku p.vars (qB p)<=18)(hd:p.dists.length<=10000)(hs5:p.soft.length<=10000):
 Pure prog GG 27 [.agg (qA p)] (.tup [.sl 4 ((ql p).1.map qt) .none,.int .i64 (ql p).2]):=by
 have hkp:=qka p h hv20 hb hd hs5;by_cases he:(wQ p).2=0
 case neg=>
  have hre:=vW p;have hr0:(ql p).1=[]:=by
   unfold ql wQ at *;split
   . rename_i hv;split
     . rename_i hs;rw[if_pos hv,if_pos hs]at he;exact absurd rfl he
     rfl
   rfl
  rw[hr0,hre];refine qCK o0 true qe func27 rfl (by kernel_rfl) ?_;simp only[qA]at hkp;simp;refine qCO hkp (by simp) ?_;simp[he];rw[qS (by simp)];exact⟨by simp,by simp[Leq,zq]⟩
 obtain⟨hv,hs,hrr,hk1⟩:=QV he;rw[hk1,he]at hkp;rw[hrr];dsimp only;have hkl:=qeo p;have hka:=fun q (hq:q∈ZE p)=>qip hq
 generalize hKS:ZE p=KS at *;refine qCK ⟨true,[],[],[]⟩ true qe func27 rfl (by kernel_rfl) ?_;have hnd:=Wo p h hd [.cells (qA p)] [];have hknow:=Q4 h hv;have h1:=h.hard;have h2:(yg p).length<=10000:=by
  have:yg p=w9 p:=if_pos hv
  rwa[this,w9,qzk]
 have hNl:(zI p).length<=20000:=by rw[zI,qyK];omega
 obtain⟨RES,hRES⟩:∃RES,RES=zI p++KS.map (·.2):=⟨_,rfl⟩;have hRt:∀e∈RES,(pre e).length<=100000:=fun e hm=>by
  rw[hRES]at hm;rcases qy0.1 hm with hm|hm
  . exact(hknow e (qzM _ hm)).2.2.2
  obtain⟨q,hq,rfl⟩:=qza.1 hm;obtain⟨k,_,hk⟩:=hka q hq;exact(hknow q.2 (qAs _ (qyG hk))).2.2.2
 rw[<- hRES];simp only[qA]at hkp hnd;simp;refine qCO hkp (by simp) ?_;simp;refine qCQ hnd ?_;rintro v ⟨H1,T1⟩ ⟨hk,hr⟩;have bP:H1[0]?=some (.cells (qA p)):=hk.2 0 _ (by simp[qA]) (by simp);obtain⟨b,ho,hb0⟩:∃b,qoq b H1 v (zI p)/\b≠0:=by
  rcases hr with⟨hn,rfl⟩|⟨b,hne,rfl,hb1,hb2⟩
  . exact⟨1,.inl ⟨hn,rfl⟩,by omega⟩
  exact⟨b,.inr ⟨hne,rfl,hb1⟩,by simp at hb2;omega⟩
 clear hr hk;generalize zI p=N at *;simp;refine qC2 KS (fun d ev U=>ev 1=.ptr 0 0/\ev 20=.sl 1 (KS.map fun q=>[AV.int .i64 q.1]) .none/\ev 21=.int .i64 KS.length/\ev 22=.int .i64 d.length/\∃H b T,U=⟨H,T⟩/\H[0]?=some (.cells (qA p))/\b≠0/\qoq b H (ev 6) (N++d.map (·.2))) ?_ ?_ ?_
 . refine⟨by simp,by simp,by simp,by simp,H1,b,T1,rfl,bP,hb0,by simpa using ho⟩
 . rintro d q rest ev U R hR hdl hx hlt ⟨e1,e20,e21,e22,H,b,T,rfl,bP,hb0,ho⟩;have hdw:=wr (n:=(d.length:Int)+1) (by omega) (by omega);have hlt':(d.length:Int)<KS.length:=(by omega);obtain⟨k,hk1,hk2⟩:=hka q (qyG hx);have hkl2:=(qyF.1 hk2).1;obtain⟨H',hap,ho',hkeep,hlen⟩:=ho.append (T:=T) q.2 (by rw[qyK,qzk];omega);have hHl:=(qyF.1 bP).1;have ha:=wb q.2;have hl4:=zh q.2;have htk:(qt q.2).take 4=qt q.2:=qyN (by rw[hl4];exact qyQ _);have bP2:=hkeep 0 _ bP (by right;exact Ne.symm hb0);simp only[qA]at bP;generalize hv6:ev 6=v6 at *;simp[-qW,e1,e20,e21,e22,hlt',hx,hk1,hk2,bP,htk,ha,hl4,qj,qs,hap,hv6,hdw];refine hR _ _ ⟨by simp[e1],by simp[e20],by simp[e21],by simp,H',H.length,T,rfl,bP2,by omega,?_⟩;rw[show N++(d++[q]).map (·.2)=N++d.map (·.2)++[q.2] by simp];simpa using ho'
 rintro ev U ⟨e1,e20,e21,e22,H,b,T,rfl,bP,hb0,ho⟩;rw[<- hRES]at ho;have hlen:=ho.len ⟨H,T⟩;have hRl:RES.length<=1000000:=by rw[hRES,qyK,qzk];omega
 generalize hv6:ev 6=v6 at *;simp[-JO,e21,e22,hv6,hlen];refine qC2 RES (fun d ev U=>ev 6=v6/\ev 36=.int .i64 RES.length/\ev 37=.int .i64 d.length/\∃H T,U=⟨H,T⟩/\qoq b H v6 RES) ?_ ?_ ?_
 . exact⟨by simp[hv6],by simp,by simp,H,T,rfl,ho⟩
 . rintro d x rest ev U R hR hdl hx hlt ⟨e6,e36,e37,H,T,rfl,ho⟩;have hdw:=wr (n:=(d.length:Int)+1) (by omega) (by omega);have hlt':(d.length:Int)<RES.length:=(by omega);have hcp:=qjk x (hRt x (qyG hx));rcases ho with⟨h0,_⟩|⟨hne,rfl,hbk⟩
   . rw[h0]at hx;simp at hx
   have hfl:=Go.Abs.jf (sz:=4) zh RES;have hl4:=zh x;have ha:=wb x;have hput:zj (RES.flatMap qt) (d.length*4) (qt x)=RES.flatMap qt:=by
    rw[vX zh RES d.length x hlt];have:RES.set d.length x=RES:=by
     apply qzC;intro j;by_cases hj:d.length=j
     . subst hj;rw[qyL hlt,hx]
     rw[qyI hj]
    rw[this]
   have hcut:((RES.flatMap qt).drop (d.length*4)).take 4=qt x:=qeF zh hx;have hfit:d.length*4+4<=RES.length*4:=(by omega);have hset:H.set b (.cells (RES.flatMap qt))=H:=by
    apply qzC;intro j;by_cases hj:b=j
    . subst hj;rw[qyL (qyF.1 hbk).1,hbk]
    rw[qyI hj]
   generalize hFF:RES.flatMap qt=F at *;simp[-qW,e6,e36,e37,hlt',hbk,hfl,hfit,hcut];refine qCO hcp (by simp) ?_;simp[-qW,e37,hlt',hbk,hfl,hfit,hl4,ha,hput,hset,hdw];exact hR _ _ ⟨by simp[e6],by simp[e36],by simp,H,T,rfl,.inr ⟨hne,rfl,by rw[hFF];exact hbk⟩⟩
 rintro ev U ⟨e6,e36,e37,H,T,rfl,ho⟩;simp[e6,e36,e37];rcases ho with⟨h0,rfl⟩|⟨hne,rfl,hbk⟩
 . rw[h0];have hf:frz H 7 (.sl 4 [] .tight)=.sl 4 [] .tight:=qS rfl;exact Zc (by rw[hf];rfl) (by rw[hf];simp[Leq]) (by simp[Leq])
 have hoo:jr b 4 qt H (.ms b 0 RES.length 4) RES:=.inr ⟨hne,rfl,hbk⟩;exact Zc (hoo.frzNo zh (fun x=>nrE x) yA 6) (hoo.frz zh (fun x=>nrE x) yA 6) (by simp)
def qxS(l:List Ex)(H:List Blk)(r:AV)(U':St):Prop:=∃tok,r=.tup [.sl 4 (l.map qt) tok,.int .i64 0]/\(l≠[]\/tok=.tight)/\KpL [] H U'.H
def qnd(p)(h:VQ p)(hv20:p.vars.length<=20)(hb:ku p.vars (qB p)<=18)(hd:p.dists.length<=10000)(hs5:p.soft.length<=10000)(he:(ql p).2=0)(H T):
 qf prog GG 27 [.agg (qA p)] ⟨H,T⟩ (qxS (ql p).1 H):=by
 by_cases hR:(ql p).1=[]
 case neg=>
  refine qf.call (qdr p h hv20 hb hd hs5) (by simp) ?_;rw[he];exact⟨.none,rfl,.inl hR,qDh⟩
 have hkp:=qka p h hv20 hb hd hs5;rw[vW]at he;obtain⟨hv,hs,hrr,hk1⟩:=QV he;rw[hrr]at hR;have hR:zI p=[]/\ZE p=[]:=by simpa using hR
 rw[hrr,hR.1,hR.2];rw[hk1,he,hR.2]at hkp;have hnd:=fun H T=>Wo p h hd H T
 refine qCM ⟨true,[],[],[]⟩ qe func27 rfl (by kernel_rfl) ?_;simp only[qA]at hkp hnd;simp;refine qCO hkp (by simp) ?_;simp;refine qCQ (hnd _ _) ?_;rintro v ⟨H1,T1⟩ ⟨hk,hr⟩;rcases hr with⟨_,rfl⟩|⟨b,hne,_⟩
 case inr=>exact absurd hR.1 hne
 simp;refine qCR (fun m ev U=>ev 6=.sl 4 [] .tight/\ev 21=.int .i64 0/\ev 22=.int .i64 0/\KpL [] H U.H) 0 ⟨by simp,by simp,by simp,qDj.trans hk⟩ ?_;rintro m ev ⟨H2,T2⟩ R hRR ⟨e6,e21,e22,hk2⟩;simp[e6,e21,e22];refine qCR (fun m ev U=>ev 6=.sl 4 [] .tight/\ev 36=.int .i64 0/\ev 37=.int .i64 0/\KpL [] H U.H) 0 ⟨by simp[e6],by simp,by simp,hk2⟩ ?_;rintro m ev ⟨H3,T3⟩ R hRR ⟨e6,e36,e37,hk3⟩;simp[e6,e36,e37];exact⟨.tight,rfl,.inr rfl,hk3⟩
end Go.Proofs.YtfmdnopgncbmoaaGreatDoor
namespace Go.Abs
def qfu{α:Type}(f:α->Nat):List α->Nat
 |[]=>0
 |a::r=>f a+qfu f r
section
variable {α β:Type}
def qaE{f}:∀{l:List α},(∀a∈l,f a=0)->qfu f l=0
 |[],_=>rfl
 |a::r,h=>by simp only[qfu];rw[h a (by simp),qaE fun x hx=>h x (by simp[hx])]
def qoV{f:α->Nat}{l:List α}{a:α}(h:a∈l):f a<=qfu f l:=by
 induction l with
 |nil=>cases h
 | cons b r ih=>
  rcases List.mem_cons.1 h with rfl|h
  . simp only[qfu];omega
  have:=ih h;simp only[qfu];omega
end
section
variable {α:Type}
end
def lim:Nat:=1099511627777
def sat(n:Nat):Nat:=min n lim
def Yg(n):sat n<=lim:=Nat.min_le_right _ _
def qo9(a b):sat (sat a+sat b)=sat (a+b):=by unfold sat lim;omega
def qo8(a b):sat (sat a*sat b)=sat (a*b):=by
 have key:∀x y:Nat,lim<=x->0<y->lim<=x*y:=fun x y hx hy=>Nat.le_trans hx (Nat.le_mul_of_pos_right x hy)
 have top:∀x:Nat,lim<=x->sat x=lim:=fun x h=>Nat.min_eq_right h
 have low:∀x:Nat,x<=lim->sat x=x:=fun x h=>Nat.min_eq_left h
 have lp:0<lim:=by unfold lim;omega
 rcases Nat.eq_zero_or_pos a with rfl|ha0
 . simp[sat]
 rcases Nat.eq_zero_or_pos b with rfl|hb0
 . simp[sat]
 by_cases ha:a<=lim
 . rw[low a ha];by_cases hb:b<=lim
   . rw[low b hb]
   rw[top b (by omega),top (a*lim) (by rw[Nat.mul_comm];exact key _ _ (Nat.le_refl _) ha0),top (a*b) (by rw[Nat.mul_comm];exact key _ _ (by omega) ha0)]
 rw[top a (by omega),top (a*b) (key _ _ (by omega) hb0)];refine top _ (key _ _ (Nat.le_refl _) ?_);unfold sat;omega
def qcB{n}:sat n=0↔n=0:=by unfold sat lim;omega
def qsb{n}(h:sat n≠lim):sat n=n:=by unfold sat at *;omega
end Go.Abs
namespace Go.Proofs.YtfmdnopgncbmoaaGreatDoor
open Go Go.Abs Tryz Go.RowKit
def wru{n}(h0:0<=n)(h1:n<18446744073709551616):IntKind.u64.wrap n=n:=by
 simp[IntKind.wrap,IntKind.bits,IntKind.signed];omega
def W2(n:Nat)(h:n<9223372036854775808):Pure prog GG 242 [.int .i64 n] (.int .u64 n):=by
 refine qCL qe func242 rfl (by kernel_rfl) ?_;have h1:=wru (n:=n) (by omega) (by omega);simp[show ¬(n:Int)<0 by omega,yS,h1]
def qaI(n:Nat)(h:n<18446744073709551616):Pure prog GG 243 [.bool false,.int .u64 n] (if n<9223372036854775808 then .tup [.int .i64 n,.int .i64 0] else .tup [.int .i64 0,.int .i64 3]):=by
 refine qCL qe func243 rfl (by kernel_rfl) ?_;by_cases hn:n<9223372036854775808
 . have h1:=wr (n:=n) (by omega) (by omega);have h2:(n:Int)<9223372036854775808:=(by omega);simp[hn,h2,yS,h1]
 have h2:¬(n:Int)<9223372036854775808:=by omega
 simp[hn,h2]
def qgi:∀(b a:Nat),a<18446744073709551616->b<18446744073709551616->Pure prog GG 297 [.int .u64 a,.int .u64 b] (.int .u64 (Nat.gcd a b:Nat)):=by
 intro b a ha hb;refine qCL qe func297 rfl (by kernel_rfl) ?_;simp;refine qCR (fun n ev U=>∃x y:Nat,n=y/\x<18446744073709551616/\y<18446744073709551616/\ev 0=.int .u64 x/\ev 1=.int .u64 y/\Nat.gcd x y=Nat.gcd a b) b ⟨a,b,rfl,ha,hb,by simp⟩ ?_;rintro y ev U R hR ⟨x,_,rfl,hx,hy,h0,h1,hg⟩;by_cases hz:y=0
 . subst hz;simp at hg;simp[h0,h1,hg]
 simp[h0,h1,hz];refine hR (x%y) _ _ (qAm _ (by omega)) ⟨y,x%y,rfl,hy,qzw (Nat.mod_le _ _) hx,by simp,by simp[qBm],?_⟩
 rwa[qCf y,<- Nat.gcd_rec,qCf]
def qjY(n m:Nat)(h:n%4294967296=m):qu .and .u64 n 4294967295=some (.int .u64 m):=by
 have h1:((BitVec.ofInt 64 n &&& BitVec.ofInt 64 4294967295).toNat:Int)=m:=by
  rw[BitVec.toNat_and,BitVec.toNat_ofInt];rw[show(BitVec.ofInt 64 4294967295).toNat=2^32-1 by decide,qAp];omega
 show some (AV.int .u64 (IntKind.u64.wrap ((BitVec.ofInt 64 n &&& BitVec.ofInt 64 4294967295).toNat:Int)))=_;rw[h1,wru (by omega) (by omega)]
def qaK(n m:Nat)(h:n/4294967296=m):(n:Int).fdiv 4294967296=m:=by
 rw[qz7 _ (by omega)];omega
def qhc(a b c:Nat)(h:a*b=c)(hc:c<18446744073709551616):qu .mul .u64 a b=some (.int .u64 c):=by
 show some (AV.int .u64 (IntKind.u64.wrap ((a:Int)*b)))=_;rw[<- qAN,h,wru (by omega) (by omega)]
def qkG(a b c:Nat)(h:a+b=c)(hc:c<18446744073709551616):qu .add .u64 a b=some (.int .u64 c):=by
 show some (AV.int .u64 (IntKind.u64.wrap ((a:Int)+b)))=_;rw[<- qCk,h,wru (by omega) (by omega)]
def qvo(a b c d:Nat)(h:a*b=18446744073709551616*d+c)(hc:c<18446744073709551616):qu .mul .u64 a b=some (.int .u64 c):=by
 show some (AV.int .u64 (IntKind.u64.wrap ((a:Int)*b)))=_;rw[<- qAN,h];simp only[IntKind.wrap,IntKind.bits,IntKind.signed];simp;omega
def qnV(x)(hx:x<18446744073709551616):∃a b:Nat,x%4294967296=a/\x/4294967296=b/\x=4294967296*b+a/\a<=4294967295/\b<=4294967295:=⟨_,_,rfl,rfl,by omega,by omega,by omega⟩
def qpi:((2:Int)^min 32 IntKind.u64.bits)=4294967296:=by decide
def YH(x y hi lo:Nat)(hx:x<18446744073709551616)(hy:y<18446744073709551616)(hh:x*y=18446744073709551616*hi+lo)(hlo:lo<18446744073709551616):
 Pure prog GG 65 [.int .u64 x,.int .u64 y] (.tup [.int .u64 hi,.int .u64 lo]):=by
 have hlast:=qvo x y lo hi hh hlo;have key:∃x0 x1 y0 y1 p00 p10 t t0 t1 q r p01 p11 u v w:Nat,qu .and .u64 x 4294967295=some (.int .u64 x0)/\(x:Int).fdiv 4294967296=x1/\qu .and .u64 y 4294967295=some (.int .u64 y0)/\(y:Int).fdiv 4294967296=y1 /\
  qu .mul .u64 x0 y0=some (.int .u64 p00)/\qu .mul .u64 x1 y0=some (.int .u64 p10)/\(p00:Int).fdiv 4294967296=q/\qu .add .u64 p10 q=some (.int .u64 t)/\qu .and .u64 t 4294967295=some (.int .u64 t0)/\(t:Int).fdiv 4294967296=t1 /\
  qu .mul .u64 x0 y1=some (.int .u64 p01)/\qu .add .u64 t0 p01=some (.int .u64 r)/\qu .mul .u64 x1 y1=some (.int .u64 p11)/\qu .add .u64 p11 t1=some (.int .u64 u)/\(r:Int).fdiv 4294967296=v/\qu .add .u64 u v=some (.int .u64 hi):=by
  obtain⟨x0,x1,a1,a2,a3,a4,a5⟩:=qnV x hx;obtain⟨y0,y1,b1,b2,b3,b4,b5⟩:=qnV y hy;have m11:=qzY a5 b5;have m10:=qzY a5 b4;have m01:=qzY a4 b5;have m00:=qzY a4 b4;have hp:x*y=18446744073709551616*(x1*y1)+4294967296*(x1*y0)+4294967296*(x0*y1)+x0*y0:=by
   rw[a3,b3,qzr,qBp,qBp,Nat.mul_mul_mul_comm,qAH 4294967296 x1 y0,Nat.mul_left_comm x0 4294967296 y1];omega
  rw[hh]at hp;obtain⟨p11,e11⟩:∃p,x1*y1=p:=⟨_,rfl⟩;obtain⟨p10,e10⟩:∃p,x1*y0=p:=⟨_,rfl⟩;obtain⟨p01,e01⟩:∃p,x0*y1=p:=⟨_,rfl⟩;obtain⟨p00,e00⟩:∃p,x0*y0=p:=⟨_,rfl⟩;rw[e11]at hp m11;rw[e10]at hp m10;rw[e01]at hp m01;rw[e00]at hp m00;obtain⟨q,eq⟩:∃p,p00/4294967296=p:=⟨_,rfl⟩;obtain⟨t,et⟩:∃p,p10+q=p:=⟨_,rfl⟩;obtain⟨t0,et0⟩:∃p,t%4294967296=p:=⟨_,rfl⟩;obtain⟨t1,et1⟩:∃p,t/4294967296=p:=⟨_,rfl⟩;obtain⟨r,er⟩:∃p,t0+p01=p:=⟨_,rfl⟩;obtain⟨u,eu⟩:∃p,p11+t1=p:=⟨_,rfl⟩;obtain⟨v,ev⟩:∃p,r/4294967296=p:=⟨_,rfl⟩;exact⟨x0,x1,y0,y1,p00,p10,t,t0,t1,q,r,p01,p11,u,v,0,qjY _ _ a1,qaK _ _ a2,qjY _ _ b1,qaK _ _ b2,qhc _ _ _ e00 (by omega),qhc _ _ _ e10 (by omega),qaK _ _ eq,qkG _ _ _ et (by omega),qjY _ _ et0,qaK _ _ et1,
   qhc _ _ _ e01 (by omega),qkG _ _ _ er (by omega),qhc _ _ _ e11 (by omega),qkG _ _ _ eu (by omega),qaK _ _ ev,qkG _ _ _ (by omega) (by omega)⟩
 obtain⟨x0,x1,y0,y1,p00,p10,t,t0,t1,q,r,p01,p11,u,v,_,k1,k2,k3,k4,k5,k6,k7,k8,k9,k10,k11,k12,k13,k14,k15,k16⟩:=key;refine qCL qe func65 rfl (by kernel_rfl) ?_;simp[-qu,qpi,k1,k2,k3,k4,k5,k6,k7,k8,k9,k10,k11,k12,k13,k14,k15,k16,hlast]
def qab(n:Nat):Int×Int:=if n<9223372036854775808 then(n,0) else(0,3)
def qh2(a b:Nat)(ha:a<9223372036854775808)(hb:b<9223372036854775808):Pure prog GG 174 [.int .i64 a,.int .i64 b] (.tup [.int .i64 (qab (a*b)).1,.int .i64 (qab (a*b)).2]):=by
 obtain⟨hi,lo,hh,hlo⟩:∃hi lo,a*b=18446744073709551616*hi+lo/\lo<18446744073709551616:=⟨_,_,(qAQ _ _).symm,qAm _ (by omega)⟩;have hm:=YH a b hi lo (by omega) (by omega) hh hlo;have hs1:=W2 a ha;have hs2:=W2 b hb;have hsg:=qaI lo hlo;refine qCL qe func174 rfl (by kernel_rfl) ?_;generalize hr:qab (a*b)=r;have hm:=YH a b hi lo (by omega) (by omega) hh hlo;simp;refine qCO hs1 rfl ?_;simp;refine qCO hs2 rfl ?_;simp;refine qCO hm rfl ?_;simp;refine⟨fun h0=>?_,fun h0=>?_⟩
 . have h0':¬a*b<9223372036854775808:=(by omega);simp[qab,h0']at hr;subst hr;simp
 have:a*b=lo:=by omega
 simp[show ¬(a:Int)<0 by omega,show ¬(b:Int)<0 by omega];refine qCO hsg rfl ?_;rw[this]at hr;unfold qab at hr;split at hr<;>subst hr<;>rename_i h<;>simp[h]
def qsG(a b:Nat)(ha:0<a)(hb:0<b)(ha1:a<9223372036854775808)(hb1:b<9223372036854775808):Pure prog GG 240 [.int .i64 a,.int .i64 b] (.tup [.int .i64 (qab (Nat.lcm a b)).1,.int .i64 (qab (Nat.lcm a b)).2]):=by
 have hg:=qBe b ha;have hgl:=qA6 ha (qAf a b);have hlcm:a/Nat.gcd a b*b=Nat.lcm a b:=by
  unfold Nat.lcm;exact Nat.div_mul_right_comm (qAf a b) b
 have hq:a/Nat.gcd a b<=a:=qzI _ _;obtain⟨g,hge⟩:∃g,Nat.gcd a b=g:=⟨_,rfl⟩;obtain⟨q,hqe⟩:∃q,a/g=q:=⟨_,rfl⟩;obtain⟨l,hle⟩:∃l,Nat.lcm a b=l:=⟨_,rfl⟩;have hd:=qgi b a (by omega) (by omega);rw[hge]at hg hgl hlcm hq hd;rw[hqe]at hlcm hq;rw[hle]at hlcm⊢;obtain⟨hi,lo,hh,hlo⟩:∃hi lo,l=18446744073709551616*hi+lo/\lo<18446744073709551616:=⟨_,_,(qAQ _ _).symm,qAm _ (by omega)⟩;have hm:=YH q b hi lo (by omega) (by omega) (by omega) hlo;have hs1:=W2 a ha1;have hs2:=W2 b hb1;have hsg:=qaI lo hlo;have hdiv:(a:Int).tdiv g=q:=by
  rw[qA5 (by omega)];omega
 have hqu:=wru (n:=q) (by omega) (by omega);generalize hr:qab l=r;refine qCL qe func240 rfl (by kernel_rfl) ?_;simp[show ¬a=0 by omega,show ¬b=0 by omega];refine qCO hs1 rfl ?_;simp;refine qCO hs1 rfl ?_;simp;refine qCO hs2 rfl ?_;simp;refine qCO hd rfl ?_;simp[show ¬g=0 by omega,hdiv,hqu];refine qCO hs2 rfl ?_;simp;refine qCO hm rfl ?_;simp;refine⟨fun h0=>?_,fun h0=>?_⟩
 . have h0':¬l<9223372036854775808:=(by omega);simp[qab,h0']at hr;subst hr;simp
 have:l=lo:=by omega
 refine qCO hsg rfl ?_;rw[this]at hr;unfold qab at hr;split at hr<;>subst hr<;>rename_i h<;>simp[h]
def qvC{w:Int}(h0:0<=w)(h1:w<=30):IntKind.i64.wrap ((2:Int)^min w.toNat IntKind.i64.bits)=((2^w.toNat:Nat):Int):=by
 have e:min w.toNat IntKind.i64.bits=w.toNat:=qAb (by show w.toNat<=64;omega);rw[e];have:2^w.toNat<=2^30:=qzc (by omega) (by omega);rw[show(2:Int)^w.toNat=((2^w.toNat:Nat):Int) by simp];generalize 2^w.toNat=N at *;exact wr (by omega) (by omega)
def qil(w):Pure prog GG 241 [.agg (qC w)] (.int .i64 (if w.each=true then 1 else 0)):=by
 refine qCL qe func241 rfl (by kernel_rfl) ?_;cases h:w.each<;>simp[h]
def qsN(w):Pure prog GG 173 [.agg (qC w),.int .u8 115] (.bool (!w.each)):=by
 obtain⟨lo,hi,wt,each⟩:=w;have hk:=qil ⟨lo,hi,wt,each⟩;refine qCL qe func173 rfl (by kernel_rfl) ?_;cases each
 all_goals
  simp at hk;simp;refine qCO hk rfl ?_;simp;refine qCO hk rfl ?_;simp
def qsO(w):Pure prog GG 173 [.agg (qC w),.int .u8 101] (.bool w.each):=by
 obtain⟨lo,hi,wt,each⟩:=w;have hk:=qil ⟨lo,hi,wt,each⟩;refine qCL qe func173 rfl (by kernel_rfl) ?_;cases each
 all_goals
  simp at hk;simp;refine qCO hk rfl ?_;simp;refine qCO hk rfl ?_;simp
def qdu(w)(h0:0<=w.lo)(h1:w.lo<=w.hi)(h2:w.hi<=65535):Pure prog GG 175 [.agg (qC w)] (.int .i64 (w.hi-w.lo+1)):=by
 refine qCL qe func175 rfl (by kernel_rfl) ?_;simp[show IntKind.i64.wrap (w.hi-w.lo)=w.hi-w.lo from wr (by omega) (by omega),show IntKind.i64.wrap (w.hi-w.lo+1)=w.hi-w.lo+1 from wr (by omega) (by omega)]
def qqI(N:Int)(w:Weight):Bool:=decide (w.lo<0)||decide (w.hi<w.lo)||decide (N-1<w.hi)||decide (w.weight<0)||decide (1000<w.weight)
def wZ(l:List Weight)(width:Int):Int :=
 if width<1\/8<width then 1 else if 16<l.length then 2 else if l.length=0 then 1 else if l.any (qqI ((2^width.toNat:Nat):Int))=true then 1 else 0
def qi7(l)(hl:Fits l)(width):Pure prog GG 170 [.sl 4 (l.map qC) .none,.int .i64 width] (.int .i64 (wZ l width)):=by
 refine qCL qe func170 rfl (by kernel_rfl) ?_;generalize hr:wZ l width=r;unfold wZ at hr;by_cases hw:width<1\/8<width
 . rw[if_pos hw]at hr;subst hr;rcases hw with h|h
   . simp[h]
   have:¬width<1:=by omega
   simp[h,this]
 rw[if_neg hw]at hr;have h1:¬width<1:=by omega
 have h2:¬8<width:=by omega
 have hsh:=qvC (w:=width) (by omega) (by omega);by_cases hb:16<l.length
 . rw[if_pos hb]at hr;subst hr;have hb':(16:Int)<l.length:=(by omega);simp[h1,h2,hb']
 rw[if_neg hb]at hr;by_cases hz:l.length=0
 . rw[if_pos hz]at hr;subst hr;have hz':=qyX hz;subst hz';simp[h1,h2]
 rw[if_neg hz]at hr;have hNb:2^width.toNat<=2^8:=qzc (by omega) (by omega);have hNp:0<2^width.toNat:=Nat.pow_pos (by omega);generalize 2^width.toNat=N at hr hsh hNb hNp;have hz':l≠[]:=fun e=>hz (by rw[e];rfl)
 simp[h1,h2,show ¬(16:Int)<l.length by omega,hz'];refine qC2 l (fun d ev U=>ev 0=.sl 4 (l.map qC) .none/\ev 1=.int .i64 width/\ev 22=.sl 4 (l.map qC) .none/\ev 23=.int .i64 l.length/\ev 24=.int .i64 d.length/\d.any (qqI N)=false) ?_ ?_ ?_
 . simp
 . rintro d w rest ev U R hR hd hx hlt ⟨e0,e1,e22,e23,e24,ha⟩;have hbad:qqI N w=true->r=1:=fun h=>by
    have:l.any (qqI N)=true:=by rw[hd];simp[h]
    rw[if_pos this]at hr;exact hr.symm
   simp[-getElem?_pos,e1,e22,e23,e24,hlt,hx,show ¬width<0 by omega,hsh,show IntKind.i64.wrap ((N:Int)-1)=N-1 from wr (by omega) (by omega),show IntKind.i64.wrap ((d.length:Int)+1)=(d.length+1:Nat) by rw[wr (by omega) (by omega)];omega]
   repeat' first|(with_reducible refine And.intro ?_ ?_)|(intro _)
   all_goals first
    |exact(hbad (by unfold qqI;simp;omega)).symm
    |exact hR _ _ ⟨by simp[e0],by simp[e1],by simp[e22],by simp[e23],by simp,by simp[qqI,ha];omega⟩
 rintro ev U ⟨e0,e1,e22,e23,e24,ha⟩;rw[if_neg (by rw[ha];simp)]at hr;subst hr;simp[e23,e24]
def Yy(l:List Weight)(v:Int):Option Weight:=l.find? fun w=>decide (w.lo<=v)&&decide (v<=w.hi)
def qlr(l)(hl:Fits l)(v):Pure prog GG 172 [.sl 4 (l.map qC) .none,.int .i64 v]
 (match Yy l v with|some w=>.tup [.agg (qC w),.bool true]|none=>.tup [.agg (qC ⟨0,0,0,false⟩),.bool false]):=by
 refine qCL qe func172 rfl (by kernel_rfl) ?_;generalize hr:Yy l v=r;unfold Yy at hr;simp;refine qC2 l (fun d ev U=>ev 0=.sl 4 (l.map qC) .none/\ev 1=.int .i64 v/\ev 4=.ptr 0 0/\ev 8=.sl 4 (l.map qC) .none/\ev 9=.int .i64 l.length/\ev 10=.int .i64 d.length/\(∃t,U=⟨.cells (qC ⟨0,0,0,false⟩)::t,[]⟩)/\∀w∈d,¬(w.lo<=v/\v<=w.hi)) ?_ ?_ ?_
 . simp
 . rintro d w rest ev U R hR hd hx hlt ⟨e0,e1,e4,e8,e9,e10,⟨t,rfl⟩,ha⟩;by_cases hc:w.lo<=v/\v<=w.hi
   . have:r=some w:=by
      rw[<- hr,hd,List.find?_append,qBD.2 (fun x hx=>by have:=ha x hx;simp;omega)];simp[hc]
     subst this;simp[-getElem?_pos,e1,e4,e8,e9,e10,hlt,hx,hc]
   have hgo:=hR;simp[-getElem?_pos,e1,e4,e8,e9,e10,hlt,hx,show IntKind.i64.wrap ((d.length:Int)+1)=(d.length+1:Nat) by rw[wr (by omega) (by omega)];omega]
   repeat' first|(with_reducible refine And.intro ?_ ?_)|(intro _)
   all_goals first
    |(exfalso;omega)
    | exact hR _ _ ⟨by simp[e0],by simp[e1],by simp[e4],by simp[e8],by simp[e9],by simp,⟨_,rfl⟩,fun x hx=>by
     rcases qy0.1 hx with h|h
     . exact ha x h
     simp at h;subst h;exact hc⟩
 rintro ev U ⟨e0,e1,e4,e8,e9,e10,⟨t,rfl⟩,ha⟩;have:r=none:=by
  rw[<- hr,qBD];intro x hx;have:=ha x hx;simp;omega
 subst this;simp[-getElem?_pos,e4,e9,e10]
