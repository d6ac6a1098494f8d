import Derived.Test.YtimecmegnocamaaGreatDoorPq47
import Derived.Test.YtimecmegnocamaaGreatDoorPq45
import Derived.KernelRfl
set_option maxRecDepth 100000
set_option maxHeartbeats 16000000
set_option linter.all false
set_option linter.defProp false
namespace Go.Proofs.YtimecmegnocamaaGreatDoor
open Go Go.Abs Proofs.Tryz
def qwj(s:Nat)(X:List (List Int))(tok:Abs.Tok)(T:List (Option Nat)):Prop:=(s=1/\qgX tok T)\/(X=[]/\tok=.nil)
def qsn{H T X Y tok ty s}(hg:qwj s X tok T)(hX:X.length+Y.length<=549755813888):
 ∃s2 t2 T2,qq (Dof prog) ⟨H,T⟩ 25 (.sl s (X.map qD) tok) (.sl 1 (Y.map qD) ty)=some (.sl s2 ((X++Y).map qD) t2,⟨H,T2⟩)/\qwj s2 (X++Y) t2 T2:=by
 have hx1:X.length<=549755813888:=by omega
 by_cases h2:Y=[]
 . subst h2;refine⟨s,tok,T,?_,by rw[qBC];exact hg⟩;rcases hg with⟨rfl,_⟩|⟨rfl,_⟩<;>simp[qq,za,hx1]
 rcases hg with⟨rfl,rfl|⟨t,k,rfl,ht⟩⟩|⟨rfl,rfl⟩
 . exact⟨1,.chain T.length Y.length,T++[some Y.length],by simp[qq,za,h2,hX],.inl ⟨rfl,.inr ⟨_,_,rfl,by simp⟩⟩⟩
 . have hl:=(qAU.1 ht).1;exact⟨1,.chain t (k+Y.length),T.set t (some (k+Y.length)),by simp[qq,za,h2,hX,ht],.inl ⟨rfl,.inr ⟨_,_,rfl,by simp[hl]⟩⟩⟩
 have:Y.length<=549755813888:=by simpa using hX
 exact⟨1,.chain T.length Y.length,T++[some Y.length],by simp[qq,za,h2,this],.inl ⟨rfl,.inr ⟨_,_,rfl,by simp⟩⟩⟩
def qkE(l:List (List Int))(at' a)(hat:at'<=l.length)(hl:l.length<=1000000):
 Pure prog GG 153 [.sl 1 (l.map qD) .none,.int .i64 at',.sl 1 (a.map qh) .none] (.sl 1 ((l.take at'++a::l.drop at').map qD) .none):=by
 refine qFm qg func153 rfl (by kernel_rfl) ?_;have h1:zk (.sl 1 (l.map qD) .none) none (some (.int .i64 at')) none=some (.sl 1 ((l.take at').map qD) .none):=by
  simp[zk,zR,yT,zT,hat]
 have h2:zk (.sl 1 (l.map qD) .none) (some (.int .i64 at')) none none=some (.sl 1 ((l.drop at').map qD) .none):=by
  have h2:(l.map qD).take l.length=l.map qD:=qAZ (by simp);simp[zk,zR,yT,zT,hat,h2]
 obtain⟨s1,t1,T1,a1,g1⟩:=qsn (H:=[]) (T:=[]) (X:=[]) (Y:=l.take at') (tok:=.nil) (ty:=.none) (s:=0) (.inr ⟨rfl,rfl⟩) (by simp;omega);rw[qBk]at a1 g1;obtain⟨s2,t2,T2,a2,g2⟩:=qsn (H:=[]) (T:=T1) (Y:=[a]) (ty:=.tight) g1 (by simp;omega);obtain⟨s3,t3,T3,a3,g3⟩:=qsn (H:=[]) (T:=T2) (Y:=l.drop at') (ty:=.none) g2 (by simp;omega);rw[show l.take at'++[a]++l.drop at'=l.take at'++a::l.drop at' by simp]at a3 g3;generalize l.take at'++a::l.drop at'=R at *;generalize l.take at'++[a]=X2 at *;generalize l.take at'=X1 at *;generalize l.drop at'=X3 at *;simp only[qBy,qA7,qD]at a1 a2 a3 h1 h2;simp[h1,h2,a1,a2,a3,qi,qp];rcases g3 with⟨rfl,g⟩|⟨rfl,rfl⟩
 . rcases g with rfl|⟨t,k,rfl,_⟩<;>simp[qO,show qX (R.map qD)=true from zn (fun x=>by simp) R,Leq,qFy]
 simp[qO,qX,Leq]
def atX(f:List Int->Bool)(o:List (List Int)):Nat×Nat:=o.foldl (fun s v=>(if f v then s.2+1 else s.1,s.2+1)) (0,0)
def qbe(f o v):atX f (o++[v])=(if f v then(atX f o).2+1 else(atX f o).1,(atX f o).2+1):=by unfold atX;rw[qBX];rfl
def qeZ(f o):(atX f o).2=o.length/\(atX f o).1<=o.length:=by
 induction hn:o.length generalizing o with
 |zero=>rw[qA6 hn];exact⟨rfl,qA5 _⟩
 | succ n ih=>
  obtain⟨d,x,rfl⟩:∃d x,o=d++[x]:=⟨o.dropLast,o.getLast (by rintro rfl;simp at hn),(qB9 _).symm⟩;obtain⟨h1,h2⟩:=ih d (by simpa using hn);rw[qbe,h1];refine⟨rfl,?_⟩;dsimp only;split<;>omega
def vN(G:List (List Int))(i:Nat)(g a:List Int)(out:List (List Int))(x:List Int):List (List Int) :=
 if jf G 0 i x a=true then(if out.any (fun v=>jf G i (i+1) v x)=true then out else out.take (atX (fun v=>jK v x (zS g)) out).1++x::out.drop (atX (fun v=>jK v x (zS g)) out).1) else out
def jn(G:List (List Int))(i:Nat)(g a:List Int)(l:List (List Int)):List (List Int):=l.foldl (vN G i g a) []
def qb4{G i g a x v out}(h:v∈vN G i g a out x):v∈out\/v=x:=by
 unfold vN at h;split at h
 . split at h
   . exact .inl h
   . simp at h;rcases h with h|h|h
     . exact .inl (qBH h)
     . exact .inr h
     exact .inl (qCp h)
 exact .inl h
def qb5{G i g a x out}:(vN G i g a out x).length<=out.length+1:=by
 unfold vN;split
 . split
   . omega
   . simp;omega
 omega
def qip(p:Problem)(l:List (List Int))(i:Nat)(g a:List Int)(hgi:p.groups[i]?=some g)(hl:l.length<=1000000)(hG:p.groups.length<=10000000)(hg:∀g∈p.groups,g.length<=1000000/\∀v∈g,0<=v/\v<(a.length:Nat))(hll:∀x∈l,x.length=a.length):
 Pure prog GG 97 [.agg (qA p),.sl 1 (l.map qD) .none,.int .i64 i,.sl 1 (a.map qh) .none] (.sl 1 ((jn p.groups i g a l).map qD) .none):=by
 refine qFm qg func97 rfl (by kernel_rfl) ?_;obtain⟨RES,hRES⟩:∃RES,RES=jn p.groups i g a l:=⟨_,rfl⟩;rw[<- hRES];have hil:=(qAU.1 hgi).1;have hgg:=hg g (qAV hgi);have hag0:=fun(x:List Int) (hx:x.length=a.length)=>qgR p 0 i x a (by omega) (by omega) hG (fun g' hg'=>⟨by have:=(hg g' hg').1;omega,fun v hv=>by have:=(hg g' hg').2 v hv;rw[hx];exact⟨this.1,this.2,this.2⟩⟩)
 have hag1:=fun(x y:List Int) (hx:x.length=a.length) (hy:y.length=a.length)=>qgR p i (i+1) x y (by omega) (by omega) hG (fun g' hg'=>⟨by have:=(hg g' hg').1;omega,fun v hv=>by have:=(hg g' hg').2 v hv;rw[hx,hy];exact⟨this.1,this.2,this.2⟩⟩)
 have hle:=fun(x y:List Int) (hx:x.length=a.length) (hy:y.length=a.length)=>qr8 p i g x y hgi hgg.1 (fun v hv=>by have:=hgg.2 v hv;rw[hx,hy];exact⟨this.1,this.2,this.2⟩)
 simp only[qA,qDt]at hag0 hag1 hle;simp;refine qFu (fun m ev U=>∃k s O T tok,m=l.length-k/\k<=l.length/\ev 1=.sl 1 (l.map qD) .none/\ev 2=.int .i64 i/\ev 3=.sl 1 (a.map qh) .none/\ev 4=.ptr 0 0/\ev 9=.sl s (O.map qD) tok/\(tok=.none\/tok=.nil)/\(s=1\/O=[])/\ev 10=.int .i64 k/\U=⟨[.cells (qA p)],T⟩/\(∀x∈O,x.length=a.length)/\O.length<=k/\RES=(l.drop k).foldl (vN p.groups i g a) O) l.length ?_ ?_
 . exact⟨0,0,[],[],.nil,rfl,by omega,by simp,by simp,by simp,by simp,by simp,.inr rfl,.inr rfl,by simp,by simp,by simp,by simp,hRES⟩
 rintro m ev U R hR ⟨k,s,O,T,tok,rfl,hk,e1,e2,e3,e4,e9,htok,hsO,e10,rfl,hO,hOk,hrk⟩;by_cases hlt:k<l.length
 case neg=>
  rw[show l.drop k=[] by simp;omega]at hrk;have hrk:=hrk;have hlt':¬(k:Int)<l.length:=by omega
  rw[hrk];have hn:qX (O.map qD)=true:=zn (fun x=>by simp) O;simp[*];rcases htok with rfl|rfl<;>rcases hsO with rfl|rfl<;>simp[qO,hn,Leq,qFy]
 have hw:=wr (n:=(k:Int)+1) (by omega) (by omega);obtain⟨x,hx⟩:∃x,l[k]?=some x:=⟨_,qAW hlt⟩;have hxl:=hll x (qAV hx);rw[zf hx,qBw]at hrk;have h0:=hag0 x hxl;simp[e1,e2,e3,e4,e10,show(k:Int)<l.length by omega,hx];refine qFp (G:=zl GG) h0 (by simp) ?_
 cases hc:jf p.groups 0 i x a with
 | false=>
  have hst:vN p.groups i g a O x=O:=by unfold vN;rw[if_neg (by simp[hc])]
  rw[hst]at hrk;simp[*,unA];exact hR (l.length-(k+1)) _ _ (by omega) ⟨k+1,s,O,T,tok,rfl,by omega,by simp[e1],by simp[e2],by simp[e3],by simp[e4],by simp[e9],htok,hsO,by simp,by simp,hO,by omega,hrk⟩
 | true=>
  simp[unA,e10];have hOl:O.length<=1000000:=by omega
  refine qFu (fun m ev U=>∃q,m=O.length-q/\q<=O.length/\ev 1=.sl 1 (l.map qD) .none/\ev 2=.int .i64 i/\ev 3=.sl 1 (a.map qh) .none/\ev 4=.ptr 0 0/\ev 9=.sl s (O.map qD) tok/\ev 10=.int .i64 k/\U=⟨[.cells (qA p)],T⟩/\ev 11=.int .i64 ((atX (fun v=>jK v x (zS g)) (O.take q)).1:Nat)/\ev 12=.bool ((O.take q).any (fun v=>jf p.groups i (i+1) v x))/\ev 13=.int .i64 q) O.length ?_ ?_
  . exact⟨0,rfl,by omega,by simp[e1],by simp[e2],by simp[e3],by simp[e4],by simp[e9],by simp[e10],by simp,by simp[atX],by simp⟩
  rintro m ev U R2 hR2 ⟨q,rfl,hq,e1,e2,e3,e4,e9,e10,rfl,e11,e12,e13⟩;by_cases hqo:q<O.length
  case neg=>
   have htk:O.take q=O:=qAZ (by omega);rw[htk]at e11 e12;have hqo':¬(q:Int)<O.length:=(by omega);have hat:=(qeZ (fun v=>jK v x (zS g)) O).2;have hin:=qkE O (atX (fun v=>jK v x (zS g)) O).1 x hat hOl;have hsm:=fun v (hv:v∈vN p.groups i g a O x)=>qb4 hv
   have hsl:(vN p.groups i g a O x).length<=O.length+1:=qb5;rw[show vN p.groups i g a O x=if O.any (fun v=>jf p.groups i (i+1) v x)=true then O else O.take (atX (fun v=>jK v x (zS g)) O).1++x::O.drop (atX (fun v=>jK v x (zS g)) O).1 by unfold vN;rw[if_pos hc]]at hrk hsm hsl;generalize (atX (fun v=>jK v x (zS g)) O).1=AT at *
   cases hkn:O.any (fun v=>jf p.groups i (i+1) v x) with
   | true=>
    rw[hkn]at e12;rw[hkn,if_pos rfl]at hrk;simp[unA,e9,e10,e12,e13,hqo',hw];exact hR (l.length-(k+1)) _ _ (by omega) ⟨k+1,s,O,T,tok,rfl,by omega,by simp[e1],by simp[e2],by simp[e3],by simp[e4],by simp[e9],htok,hsO,by simp,by simp,hO,by omega,hrk⟩
   | false=>
    rw[hkn]at e12;rw[hkn,if_neg (by simp)]at hrk hsm hsl;generalize O.take AT++x::O.drop AT=O2 at *;simp[unA,e1,e9,e10,e11,e12,e13,hqo',hx];refine qFq (G:=zl GG) hin ?_ ?_ ?_
    . have hn:qX (O.map qD)=true:=zn (fun x=>by simp) O;rcases htok with rfl|rfl<;>simp[hn]
    . rcases htok with rfl|rfl<;>rcases hsO with rfl|rfl<;>simp[zm,Leq,qFy]
    simp[e10,hw];exact hR (l.length-(k+1)) _ _ (by omega) ⟨k+1,1,O2,T,.none,rfl,by omega,by simp[e1],by simp[e2],by simp[e3],by simp[e4],by simp,.inl rfl,.inl rfl,by simp,by simp,fun v hv=>by
     rcases hsm v hv with h|h
     . exact hO v h
     rw[h];exact hxl,by omega,hrk⟩
  have hs1:=hsO.resolve_right (fun h=>by rw[h]at hqo;simp at hqo);subst hs1;obtain⟨y,hy⟩:∃y,O[q]?=some y:=⟨_,qAW hqo⟩;have hyl:=hO y (qAV hy);have htk:O.take (q+1)=O.take q++[y]:=by rw[qBi,hy];rfl
  have hwq:=wr (n:=(q:Int)+1) (by omega) (by omega);have hwi:=wr (n:=(i:Int)+1) (by omega) (by omega);have h1:=hle y x hyl hxl;have h2:=hag1 y x hyl hxl;have hal:=(qeZ (fun v=>jK v x (zS g)) (O.take q)).1;rw[qBG,qCq hq]at hal;have hsn:=qbe (fun v=>jK v x (zS g)) (O.take q) y;rw[hal]at hsn;simp[e1,e2,e4,e9,e10,e13,show(q:Int)<O.length by omega,hy,hx];refine qFp (G:=zl GG) h1 (by simp) ?_;rw[show((i+1:Nat):Int)=(i:Int)+1 by omega]at h2;have fin:∀ev',ev' 1=.sl 1 (l.map qD) .none->ev' 2=.int .i64 i->ev' 3=.sl 1 (a.map qh) .none->ev' 4=.ptr 0 0->ev' 9=.sl 1 (O.map qD) tok->ev' 10=.int .i64 k->ev' 11=.int .i64 ((if jK y x (zS g)=true then q+1 else(atX (fun v=>jK v x (zS g)) (O.take q)).1:Nat):Int)->ev' 12=.bool ((O.take q).any (fun v=>jf p.groups i (i+1) v x)||jf p.groups i (i+1) y x)->ev' 13=.int .i64 ((q:Int)+1)->R2 ev' ⟨[.cells (qA p)],T⟩:=fun ev' a1 a2 a3 a4 a9 a10 a11 a12 a13=>
   hR2 (O.length-(q+1)) _ _ (by omega) ⟨q+1,rfl,by omega,a1,a2,a3,a4,a9,a10,rfl,by rw[a11,show(atX (fun v=>jK v x (zS g)) (O.take (q+1))).1=if jK y x (zS g)=true then q+1 else(atX (fun v=>jK v x (zS g)) (O.take q)).1 by rw[htk,hsn]],by rw[a12,show(O.take (q+1)).any (fun v=>jf p.groups i (i+1) v x)=((O.take q).any (fun v=>jf p.groups i (i+1) v x)||jf p.groups i (i+1) y x) by rw[htk,List.any_append];simp],by rw[a13];simp⟩
  generalize (O.take q).any (fun v=>jf p.groups i (i+1) v x)=KN at *;generalize (atX (fun v=>jK v x (zS g)) (O.take q)).1=AT at *;simp only[qA]at fin
  cases hls:jK y x (zS g) with
  | true=>
   rw[hls]at fin
   cases KN with
   | true=>
    simp[e12,e13,hwq];exact fin _ (by simp[e1]) (by simp[e2]) (by simp[e3]) (by simp[e4]) (by simp[e9]) (by simp[e10]) (by simp) (by simp) (by simp)
   | false=>
    simp[e1,e2,e4,e9,e10,e12,e13,hwq,hwi,hy,hx];refine qFp (G:=zl GG) h2 (by simp) ?_;simp[e13,hwq];exact fin _ (by simp[e1]) (by simp[e2]) (by simp[e3]) (by simp[e4]) (by simp[e9]) (by simp[e10]) (by simp) (by simp) (by simp)
  | false=>
   rw[hls]at fin
   cases KN with
   | true=>
    simp[e12,e13,hwq];exact fin _ (by simp[e1]) (by simp[e2]) (by simp[e3]) (by simp[e4]) (by simp[e9]) (by simp[e10]) (by simp[e11]) (by simp) (by simp)
   | false=>
    simp[e1,e2,e4,e9,e10,e12,e13,hwi,hy,hx];refine qFp (G:=zl GG) h2 (by simp) ?_;simp[e13,hwq];exact fin _ (by simp[e1]) (by simp[e2]) (by simp[e3]) (by simp[e4]) (by simp[e9]) (by simp[e10]) (by simp[e11]) (by simp) (by simp)
def qhB(l)(hl:Fits l)(width):Pure prog GG 154 [.sl 4 (l.map qz) .none,.int .i64 width] (.int .i64 (yx l width)):=by
 refine qFm qg func154 rfl (by kernel_rfl) ?_;generalize hr:yx l width=r;unfold yx at hr;by_cases hw:width<1\/8<width
 . rw[if_pos hw]at hr;subst hr;rcases hw with h|h
   . simp[h]
   have:¬width<1:=by omega
   simp[h,this]
 rw[if_neg hw]at hr;have h1:¬width<1:=by omega
 have h2:¬8<width:=by omega
 have hcv:IntKind.u64.wrap width=width:=wru (by omega) (by omega);have hsh:=quv (w:=width) (by omega) (by omega);by_cases hb:16<l.length
 . rw[if_pos hb]at hr;subst hr;have hb':(16:Int)<l.length:=(by omega);simp[h1,h2,hb']
 rw[if_neg hb]at hr;have hb':¬(16:Int)<l.length:=by omega
 have hNb:2^width.toNat<=2^8:=qBn (by omega) (by omega);generalize 2^width.toNat=N at hr hsh hNb;simp[h1,h2,hb'];refine qFF l (fun d ev U=>ev 0=.sl 4 (l.map qz) .none/\ev 1=.int .i64 width/\ev 5=.int .i64 d.length/\d.any (qix N)=false) ?_ ?_ ?_
 . simp
 . rintro d w rest ev U R hR hd hx hlt ⟨e0,e1,e5,ha⟩;have hbad:qix N w=true->r=1:=fun h=>by
    have hlz:¬l.length=0:=(by omega);have:l.any (qix N)=true:=by rw[hd];simp[h]
    rw[if_neg hlz,if_pos this]at hr;exact hr.symm
   simp[-getElem?_pos,e0,e1,e5,hlt,hx,show ¬width<0 by omega,hcv,wK,hsh,show IntKind.i64.wrap ((d.length:Int)+1)=(d.length+1:Nat) by rw[wr (by omega) (by omega)];omega]
   repeat' first|(with_reducible refine And.intro ?_ ?_)|(intro _)
   all_goals first
    |exact(hbad (by unfold qix;simp;omega)).symm
    |exact hR _ _ ⟨by simp[e0],by simp[e1],by simp,by simp[qix,ha];omega⟩
 rintro ev U ⟨e0,e1,e5,ha⟩;rw[if_neg (show ¬l.any (qix N)=true by rw[ha];simp)]at hr;by_cases hz:l.length=0
 . rw[if_pos hz]at hr;subst hr;have hz':=qA6 hz;simp[e0,e5,hz']
 rw[if_neg hz]at hr;subst hr;have hz':l≠[]:=fun e=>hz (by rw[e];rfl)
 simp[e0,e5,hz']
def qjG(l)(hl:l.length<=1000):Pure prog GG 99 [.sl 4 (l.map qz) .none]
 (.tup [.int .i64 (if yx l 8=0 then(zN l 1).1 else 0),.int .i64 (if yx l 8=0 then(zN l 1).2 else yx l 8)]):=by
 have hv:=qhB l (by unfold Fits;omega) 8;refine qFm qg func99 rfl (by kernel_rfl) ?_;simp;refine qFp hv (by simp) ?_;by_cases h:yx l 8=0
 . have hw:=(vV h).1;simp[h];generalize hr:zN l 1=r;refine qFF l (fun d ev U=>ev 0=.sl 4 (l.map qz) .none/\ev 6=.int .i64 d.length/\∃s:Nat,ev 5=.int .i64 s/\0<s/\s<9223372036854775808/\zN (l.drop d.length) s=r) ?_ ?_ ?_
   . exact⟨by simp,by simp,1,by simp,by omega,by omega,by simpa using hr⟩
   . rintro d w rest ev U R hR hd hx hlt ⟨e0,e6,s,e5,hs0,hs1,hsc⟩;have hdw:IntKind.i64.wrap ((d.length:Int)+1)=(d.length+1:Nat):=(by rw[wr (by omega) (by omega)];omega);obtain⟨w0,w1,w2,w3,w4⟩:=hw w (qAV hx);rw[show l.drop d.length=w::l.drop (d.length+1) by rw[hd];simp]at hsc;have hwp:=YT w1;have hsz:(wsz w:Int)=w.hi-w.lo+1:=(by unfold wsz;omega);have e1:IntKind.i64.wrap (w.hi-w.lo)=w.hi-w.lo:=wr (by omega) (by omega);have e2:IntKind.i64.wrap (w.hi-w.lo+1)=w.hi-w.lo+1:=wr (by omega) (by omega);have h3:=qro s (wsz w) hs0 hwp (by omega) (by omega);rw[hsz]at h3;have hlp:=Nat.lcm_pos hs0 hwp;have hgo:∀(s':Nat) (ev':Env) (U':St),0<s'->s'<9223372036854775808->zN (l.drop (d.length+1)) s'=r->ev' 0=.sl 4 (l.map qz) .none->ev' 6=.int .i64 (d.length+1:Nat)->ev' 5=.int .i64 s'->R ev' U':=fun s' ev' U' a1 a2 a3 a4 a7 a8=>
      hR _ _ ⟨a4,by simpa using a7,s',a8,a1,a2,by simpa using a3⟩
     cases hea:w.each
     . simp only[zN,hea,qBz,if_false]at hsc;simp[-getElem?_pos,e0,e5,e6,hlt,hx,hea,e1,e2];refine qFp h3 rfl ?_;generalize Nat.lcm s (wsz w)=L at hsc hlp⊢;by_cases hL:L<9223372036854775808
       . rw[if_pos hL]at hsc;simp[J6,hL,e6,hdw];exact hgo L _ _ hlp hL hsc (by simp[e0]) (by simp) (by simp)
       rw[if_neg hL]at hsc;subst hsc;simp[J6,hL]
     simp only[zN,hea,if_true]at hsc;simp[-getElem?_pos,e0,e6,hlt,hx,hea,hdw];exact hgo s _ _ hs0 hs1 hsc (by simp[e0]) (by simp) (by simp[e5])
   rintro ev U ⟨e0,e6,s,e5,hs0,hs1,hsc⟩;rw[qBL]at hsc;simp only[zN]at hsc;subst hsc;simp[e0,e6,e5]
 simp[h]
def qjK(l)(hl:Fits l)(v):Pure prog GG 100 [.sl 4 (l.map qz) .none,.int .i64 v] (.int .i64 (zq (fun w:Weight=>decide (w.lo<=v)&&decide (v<=w.hi)) l 0)):=by
 refine qFm qg func100 rfl (by kernel_rfl) ?_;generalize hr:zq (fun w:Weight=>decide (w.lo<=v)&&decide (v<=w.hi)) l 0=r;simp;refine qFF l (fun d ev U=>ev 0=.sl 4 (l.map qz) .none/\ev 1=.int .i64 v/\ev 5=.int .i64 d.length/\zq (fun w:Weight=>decide (w.lo<=v)&&decide (v<=w.hi)) (l.drop d.length) d.length=r) ?_ ?_ ?_
 . exact⟨by simp,by simp,by simp,by simpa using hr⟩
 . rintro d w rest ev U R hR hd hx hlt ⟨e0,e1,e5,hf⟩;rw[show l.drop d.length=w::l.drop (d.length+1) by rw[hd];simp]at hf;simp only[zq]at hf;by_cases hc:w.lo<=v/\v<=w.hi
   . rw[if_pos (by simpa using hc)]at hf;subst hf;simp[-getElem?_pos,e0,e1,e5,hlt,hx,hc]
   rw[if_neg (by simpa using hc)]at hf;simp[-getElem?_pos,e0,e1,e5,hlt,hx,show IntKind.i64.wrap ((d.length:Int)+1)=(d.length+1:Nat) by rw[wr (by omega) (by omega)];omega]
   repeat' first|(with_reducible refine And.intro ?_ ?_)|(intro _)
   all_goals first
    |(exfalso;omega)
    |exact hR _ _ ⟨by simp[e0],by simp[e1],by simp,by simpa using hf⟩
 rintro ev U ⟨e0,e1,e5,hf⟩;rw[qBL]at hf;simp only[zq]at hf;subst hf;simp[-getElem?_pos,e0,e5]
def VV{α}(p):∀(l:List α) (i:Nat),(zq p l i = -1/\l.find? p=none)\/∃k w,zq p l i=((i+k:Nat):Int)/\l[k]?=some w/\l.find? p=some w
 |[],i=>.inl ⟨rfl,rfl⟩
 | a::r,i=>by
  by_cases h:p a=true
  . exact .inr ⟨0,a,by simp[zq,h],by simp,by simp[h]⟩
  have ih:=VV p r (i+1);have e:zq p (a::r) i=zq p r ((i+1:Nat):Int):=by simp[zq,h]
  rw[e];rcases ih with⟨h1,h2⟩|⟨k,w,h1,h2,h3⟩
  . exact .inl ⟨h1,by simp[h,h2]⟩
  exact .inr ⟨k+1,w,by rw[h1];congr 1;omega,by simpa using h2,by simp[h,h3]⟩
def qhx(l)(hl:l.length<=1000)(v):Pure prog GG 53 [.sl 4 (l.map qz) .none,.int .i64 v] (.tup [.int .i64 (zW l v).1,.int .i64 (zW l v).2]):=by
 have hs:=qjG l hl;have hf:=qjK l (by unfold Fits;omega) v;refine qFm qg func53 rfl (by kernel_rfl) ?_;generalize hr:zW l v=r;unfold zW at hr;simp;refine qFp hs (by simp) ?_;by_cases h:yx l 8=0
 . have hw:=(vV h).1;rw[if_neg (by simp[h])]at hr;rcases kg l 1 hw (by omega) (by omega) with⟨h1,h2,h3⟩|h1
   . rw[if_neg (by simp[h1])]at hr;obtain⟨s,hse⟩:∃s:Nat,(zN l 1).1=s:=⟨(zN l 1).1.toNat,by omega⟩;rw[hse]at hr h2 h3;simp at hr;simp[h,h1,hse];refine qFp hf (by simp) ?_;have hff:=VV (fun w:Weight=>decide (w.lo<=v)&&decide (v<=w.hi)) l 0;simp only[qDt,qCC]at hff;unfold vP J1 at hr;rcases hff with⟨k1,k2⟩|⟨k,w,k1,k2,k3⟩
     . rw[k2]at hr;simp only at hr;subst hr;simp[k1]
     rw[k3]at hr;simp only at hr;obtain⟨w0,w1,w2,w3,w4⟩:=hw w (qAV k2);obtain⟨c,hk⟩:∃c:Nat,w.weight=c:=⟨w.weight.toNat,by omega⟩;have hsz:w.hi-w.lo+1=(wsz w:Int):=(by unfold wsz;omega);have e2:IntKind.i64.wrap (w.hi-w.lo+1)=wsz w:=(by rw[<- hsz];exact wr (by omega) (by omega));have hm1:=qed c s (c*s) (by simp) (by omega) (by omega) (by omega) (by omega);have hq:s/wsz w<=s:=qBQ _ _;have hkt:w.weight.toNat=c:=(by omega);rw[hkt]at hr;have hn0:¬((k:Int)<0):=(by omega);generalize hz:wsz w=z at *;have hz0:¬z=0:=(by omega);obtain⟨q,hqe⟩:∃q,s/z=q:=⟨_,rfl⟩;have hdiv:(s:Int)/z=q:=(by rw[<- hqe];simp);rw[hqe]at hr hq;have hm2:=qed c q (c*q) (by simp) (by omega) (by omega) (by omega) (by omega);have hqu:=wr (n:=q) (by omega) (by omega);cases hea:w.each
     . rw[hea]at hr;simp only[qBz,if_false]at hr;subst hr;simp[k1,k2,hn0,hea,hk,show IntKind.i64.wrap (w.hi-w.lo)=w.hi-w.lo from wr (by omega) (by omega),e2,hz0,hdiv,hqu];refine qFp hm2 rfl ?_;simp
     rw[hea]at hr;simp only[if_true]at hr;subst hr;simp[k1,k2,hn0,hea,hk];refine qFp hm1 rfl ?_;simp
   rw[h1]at hr;simp at hr;subst hr;simp[h,h1]
 rw[if_pos h]at hr;subst hr;simp[h]
def qiE(v x:Int)(acc:Int)(d:Dist):Option Int :=
 if d.var≠v then some acc
 else if(zW d.weights x).2≠0\/(0<(zW d.weights x).1/\1099511627776/(zW d.weights x).1<acc) then none
 else some (acc*(zW d.weights x).1)
def YV(ds:List Dist)(v x:Int)(acc:Option Int):Option Int:=ds.foldl (fun s d=>s.bind fun n=>qiE v x n d) acc
def qiP(ds:List Dist)(a:List Int)(g:List Int):Option Int:=g.foldl (fun s v=>YV ds v (a.getD v.toNat 0) s) (some 1)
def qmk(o:Option Int):Int×Bool:=match o with
 |some n=>(n,true)
 |none=>(0,false)
def Zx(ds v x):YV ds v x none=none:=by
 unfold YV
 induction ds with
 |nil=>rfl
 |cons d ds ih=>exact ih
def Zy(ds)(a:List Int)(g:List Int):g.foldl (fun s v=>YV ds v (a.getD v.toNat 0) s) none=none:=by
 induction g with
 |nil=>rfl
 |cons v g ih=>rwa[qBw,Zx]
def W6{v x acc n d}(h0:0<=acc)(h1:acc<=1099511627776)(h:qiE v x acc d=some n):0<=n/\n<=1099511627776:=by
 unfold qiE at h;split at h
 . cases h;exact⟨h0,h1⟩
 split at h
 . cases h
 rename_i h2;cases h;have hw:=QC d.weights x;generalize (zW d.weights x).1=w at *;refine⟨qE9 h0 hw,?_⟩;by_cases hw0:0<w
 . have h3:¬1099511627776/w<acc:=fun h=>h2 (.inr ⟨hw0,h⟩)
   exact(Int.le_ediv_iff_mul_le hw0).1 (by omega)
 have:w=0:=by omega
 rw[this];simp
def qfe(p:Problem)(i:Nat)(g a:List Int)(hgi:p.groups[i]?=some g)(hgl:g.length<=1000000)(hgv:∀v∈g,0<=v/\v<(a.length:Nat))(hd:p.dists.length<=10000)(hwl:∀d∈p.dists,d.weights.length<=1000):
 Pure prog GG 26 [.agg (qA p),.int .i64 i,.sl 1 (a.map qh) .none] (.tup [.int .i64 (qmk (qiP p.dists a g)).1,.bool (qmk (qiP p.dists a g)).2]):=by
 refine qFm qg func26 rfl (by kernel_rfl) ?_;obtain⟨RES,hRES⟩:∃RES,RES=qiP p.dists a g:=⟨_,rfl⟩;rw[<- hRES];simp;refine qFu (fun m ev U=>∃k acc,m=g.length-k/\k<=g.length/\0<=acc/\acc<=1099511627776/\ev 1=.int .i64 i/\ev 2=.sl 1 (a.map qh) .none/\ev 3=.ptr 0 0/\ev 8=.int .i64 acc/\ev 9=.int .i64 k/\U=⟨[.cells (qA p)],[]⟩/\RES=(g.drop k).foldl (fun s v=>YV p.dists v (a.getD v.toNat 0) s) (some acc)) g.length ?_ ?_
 . exact⟨0,1,rfl,by omega,by omega,by omega,by simp,by simp,by simp,by simp,by simp,by simp,hRES⟩
 rintro m ev U R hR ⟨k,acc,rfl,hk,ha0,ha1,e1,e2,e3,e8,e9,rfl,hrk⟩;by_cases hlt:k<g.length
 case neg=>
  have hdr:g.drop k=[]:=by simp;omega
  rw[hdr]at hrk;have hrk:=hrk;have hlt':¬(k:Int)<g.length:=by omega
  simp[e1,e3,e8,e9,hgi,hlt',hrk,qmk]
 have hw:=wr (n:=(k:Int)+1) (by omega) (by omega);obtain⟨v,hv⟩:∃v,g[k]?=some v:=⟨_,qAW hlt⟩;obtain⟨v0,va⟩:=hgv v (qAV hv);obtain⟨w,rfl⟩:=qBe v0;obtain⟨x,hx⟩:∃x,a[w]?=some x:=⟨_,qAW (by omega)⟩;rw[zf hv,qBw]at hrk;simp only[qBu,List.getD,hx,qDI]at hrk;simp[e1,e3,e9,hgi,show(k:Int)<g.length by omega,hv];refine qFu (fun m ev U=>∃q acc,m=p.dists.length-q/\q<=p.dists.length/\0<=acc/\acc<=1099511627776/\ev 1=.int .i64 i/\ev 2=.sl 1 (a.map qh) .none/\ev 3=.ptr 0 0/\ev 8=.int .i64 acc/\ev 9=.int .i64 k/\ev 10=.int .i64 w/\ev 11=.int .i64 q/\U=⟨[.cells (qA p)],[]⟩/\RES=(g.drop (k+1)).foldl (fun s v=>YV p.dists v ((a[v.toNat]?).getD 0) s) (YV (p.dists.drop q) w x (some acc))) p.dists.length ?_ ?_
 . exact⟨0,acc,rfl,by omega,ha0,ha1,by simp[e1],by simp[e2],by simp[e3],by simp[e8],by simp[e9],by simp,by simp,by simp,hrk⟩
 rintro m ev U R2 hR2 ⟨q,acc,rfl,hq,ha0,ha1,e1,e2,e3,e8,e9,e10,e11,rfl,hrk⟩;by_cases hqd:q<p.dists.length
 case neg=>
  rw[show p.dists.drop q=[] by simp;omega]at hrk;have hqd':¬(q:Int)<p.dists.length:=by omega
  simp[e3,e9,e11,hqd',hw];exact hR (g.length-(k+1)) _ _ (by omega) ⟨k+1,acc,rfl,by omega,ha0,ha1,by simp[e1],by simp[e2],by simp[e3],by simp[e8],by simp,by simp,hrk⟩
 have hqd':(q:Int)<p.dists.length:=by omega
 have hwq:=wr (n:=(q:Int)+1) (by omega) (by omega);obtain⟨d,hdq⟩:∃d,p.dists[q]?=some d:=⟨_,qAW hqd⟩;have hdm:=qAV hdq;have hrw:=qhx d.weights (hwl d hdm) x;rw[zf hdq]at hrk;have hst:YV (d::p.dists.drop (q+1)) w x (some acc)=YV (p.dists.drop (q+1)) w x (qiE w x acc d):=rfl;rw[hst]at hrk;have hrg:=fun n=>W6 (v:=(w:Int)) (x:=x) (d:=d) (n:=n) ha0 ha1
 have hnn:=QC d.weights x;unfold qiE at hrk hrg;by_cases hdv:d.var=w
 case neg=>
  rw[if_pos hdv]at hrk;simp[e3,e10,e11,hqd',hdq,hdv,hwq];exact hR2 (p.dists.length-(q+1)) _ _ (by omega) ⟨q+1,acc,rfl,by omega,ha0,ha1,by simp[e1],by simp[e2],by simp[e3],by simp[e8],by simp[e9],by simp[e10],by simp,by simp,hrk⟩
 rw[if_neg (by simp[hdv])]at hrk;simp only[hdv,ne_eq,not_true,if_false]at hrg;simp[e2,e3,e10,e11,hqd',hdq,hdv,hx];refine qFp (G:=zl GG) hrw (by simp) ?_;generalize (zW d.weights x).1=W at *;generalize (zW d.weights x).2=E at *;by_cases hE:E=0
 case neg=>
  have hN:RES=none:=by rw[hrk,if_pos (.inl hE),Zx];exact Zy _ _ _
  simp[hE,hN,qmk]
 subst hE;by_cases hW:0<W
 case neg=>
  have hW0:W=0:=by omega
  subst hW0;rw[if_neg (by simp),Int.mul_zero _]at hrk;simp[e8,e11,hwq,show IntKind.i64.wrap 0=0 by decide];exact hR2 (p.dists.length-(q+1)) _ _ (by omega) ⟨q+1,0,rfl,by omega,by omega,by omega,by simp[e1],by simp[e2],by simp[e3],by simp,by simp[e9],by simp[e10],by simp,by simp,hrk⟩
 have hW0:¬W=0:=by omega
 have hq1:(1099511627776:Int).tdiv W=1099511627776/W:=qBT (by omega);have hq2:0<=(1099511627776:Int)/W/\(1099511627776:Int)/W<=1099511627776:=⟨Int.ediv_nonneg (by omega) (by omega),Int.ediv_le_self _ (by omega)⟩;have hwd:=wr (n:=(1099511627776:Int)/W) (by omega) (by omega);by_cases hbig:1099511627776/W<acc
 . have hN:RES=none:=(by rw[hrk,if_pos (.inr ⟨hW,hbig⟩),Zx];exact Zy _ _ _);simp[e8,hW,hW0,hq1,hwd,hbig,hN,qmk]
 have hno:¬((0:Int)≠0\/(0<W/\1099511627776/W<acc)):=by
  rintro(h|h)
  . exact h rfl
  exact hbig h.2
 rw[if_neg hno]at hrk;have hr2:=hrg (acc*W) (by rw[if_neg hno]);have hwm:=wr (n:=acc*W) (by omega) (by omega);simp[e8,e11,hW,hW0,hq1,hwd,hbig,hwq,hwm];exact hR2 (p.dists.length-(q+1)) _ _ (by omega) ⟨q+1,acc*W,rfl,by omega,hr2.1,hr2.2,by simp[e1],by simp[e2],by simp[e3],by simp,by simp[e9],by simp[e10],by simp,by simp,hrk⟩
noncomputable def qmP(p:Problem)(R:List Ex)(fx:Nat->Option Nat)(a:List Int)(gi:Nat):Nat:=qbr p R fx ((NG p).getD gi []) (((NG p).take gi).flatten.map fun i=>(i,aN a i))
noncomputable def Yf(p:Problem)(R:List Ex)(gi:Int)(a:List Int):Int×Int :=
 if gi<0\/((NG p).length:Int)<=gi\/qL p.vars a=false then(0,1)
 else if qmP p R (fun _=>none) a gi.toNat=0 then(0,11) else if qmP p R (fun _=>none) a gi.toNat=lim then(0,3) else(qmP p R (fun _=>none) a gi.toNat,0)
noncomputable def qxs(p:Problem)(R:List Ex)(a:List Int)(gi:Nat):List Nat->(Nat->Option Nat)->Int->List Int->List Int
 |[],_,_,out=>out
 | i::r,fx,idx,out=>
  let q:=wH (fun x=>qmP p R (wP fx i x) a gi) (2^wdN p i) 0 idx
  qxs p R a gi r (wP fx i q.1) q.2 (out.set i q.1)
noncomputable def qoS(p:Problem)(R:List Ex)(gi:Nat)(a:List Int)(idx:Int):List Int:=qxs p R a gi (kU ((NG p).getD gi [])) (fun _=>none) idx a
def qvU(p a gi):∀(l) (fx) (idx) (out),chP p a gi l fx idx out=qxs p (qC p).1 a gi l fx idx out
 |[],_,_,_=>rfl
 | i::r,fx,idx,out=>by
  unfold chP qxs;exact qvU p a gi r _ _ _
def qps(p gi a):vX p gi a=Yf p (qC p).1 gi a:=rfl
def qlA(p gi a idx):JL p gi a idx=qoS p (qC p).1 gi a idx:=qvU _ _ _ _ _ _ _
def qhy{p}(hv:qo p=0)(hs:p.soft=[])(hd:p.dists=[])(h:jQ p.vars p.hard=true):qC p=(p.hard,0):=by
 have hn:zy p=p.hard:=by
  unfold zy jF wk;rw[if_pos hv,hd];simp
 have hns:qes p=p.hard:=by
  unfold qes wk;rw[hd];simp
 unfold qC;rw[if_pos hv,hn,if_pos h];unfold qjE Zk;rw[hns,hs];simp[Zj,yu]
def p1:Problem:={vars:=[⟨[97],1,2,0⟩],hard:=[],soft:=[],dists:=[],groups:=[[0]]}
end Go.Proofs.YtimecmegnocamaaGreatDoor
namespace Go.Abs
open Go Go.RowKit
def Pure.ofA{P G f args r Q}(h:qj P (zl G) f args ⟨[],[]⟩ Q)(hq:∀v U',Q v U'->qO (frz U'.H 8 v)=true/\Leq (frz U'.H 8 v) r):Pure P G f args r:=by
 refine⟨h.1,?_⟩;intro w0 ro vs hg hro hvs;have hw:WRel (zl G) w0 ro (K0 ro) ⟨[],[]⟩ w0:=⟨Below.refl _ _,hg,hro,fun b o v e _=>e,by simp,fun _ _ _ e=>by simp[K0]at e,fun _ _ e=>by simp[K0]at e,by simp,fun _ _ e=>by simp[K0]at e,
  fun _ _ _ _ e=>by simp[K0]at e,rfl,fun _ _ _ _ _ e=>by simp[K0]at e,fun _ _ e=>by simp[K0]at e,fun _ _ e=>by simp[K0]at e⟩
 refine(h.2 w0 ro (K0 ro) w0 vs hw hvs).mono ?_;rintro e w' (⟨v',v,U',K',rfl,h1,h2,hv,hQ⟩|⟨c,U',K',rfl,h1,h2,hX⟩)
 . obtain⟨q1,q2⟩:=h2.end_ro;obtain⟨g1,g2⟩:=hq v U' hQ;exact⟨v',v9 w0 w' K'.ro,rfl,h2.below,fun b o v e=>Yz _ _ _ _ _ _ (h1.ro b o v e),q1,q2,qFv _ _ g2 (qkU h2 8 hv)⟩
 exact hX.elim
end Go.Abs
namespace Go.Proofs.YtimecmegnocamaaGreatDoor
open Go Go.Abs Proofs.Tryz
def qiK.frz{b H v a}(h:qiK b H v a)(n):qO (Abs.frz H (n+1) v)=true/\Leq (Abs.frz H (n+1) v) (.sl 1 (a.map qh) .none)/\(qO v=true->Leq v (.sl 1 (a.map qh) .none)):=by
 rcases h with⟨rfl,sz,tok,rfl⟩|⟨h0,rfl,hb⟩
 . have h1:∀t,Leq (.sl sz [] t) (.sl 1 (([]:List Int).map qh) .none):=fun t=>by simp[Leq]
   refine⟨?_,?_,fun _=>h1 _⟩
   . unfold Abs.frz;split
     . assumption
     simp
   unfold Abs.frz;split
   . exact h1 _
   simp
 have ho:jr b 1 qh H (.ms b 0 a.length 1) a:=.inr ⟨h0,rfl,by rw[hb,jM]⟩;exact⟨ho.frzNo (fun _=>rfl) (fun _=>rfl) (fun _=>rfl) n,ho.frz (fun _=>rfl) (fun _=>rfl) (fun _=>rfl) n,fun h=>by simp[qO]at h⟩
def v1:Var:=⟨[97],1,2,0⟩
