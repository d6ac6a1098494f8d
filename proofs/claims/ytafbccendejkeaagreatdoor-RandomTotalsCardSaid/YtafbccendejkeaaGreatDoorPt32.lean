import Derived.Test.YtafbccendejkeaaGreatDoorPt31
set_option maxHeartbeats 16000000
set_option maxRecDepth 100000
set_option linter.all false
set_option linter.defProp false
namespace Go.Proofs.YtafbccendejkeaaGreatDoor
open Go Go.Abs Proofs.Tryz Go.RowKit
def atX(f:List Int->Bool)(o:List (List Int)):Nat×Nat:=o.foldl (fun s v=>(if f v then s.2+1 else s.1,s.2+1)) (0,0)
def qba(f o v):atX f (o++[v])=(if f v then(atX f o).2+1 else(atX f o).1,(atX f o).2+1):=by unfold atX;rw[qBj];rfl
def qeY(f o):(atX f o).2=o.length/\(atX f o).1<=o.length:=by
 induction hn:o.length generalizing o with
 |zero=>rw[qAA hn];exact⟨rfl,qAy _⟩
 | succ n ih=>
  obtain⟨d,x,rfl⟩:∃d x,o=d++[x]:=⟨o.dropLast,o.getLast (by rintro rfl;simp at hn),(qBB _).symm⟩;obtain⟨h1,h2⟩:=ih d (by simpa using hn);rw[qba,h1];refine⟨rfl,?_⟩;dsimp only;split<;>omega
def vF(G:List (List Int))(i:Nat)(g a:List Int)(out:List (List Int))(x:List Int):List (List Int) :=
 if ja G 0 i x a=true then(if out.any (fun v=>ja G i (i+1) v x)=true then out else out.take (atX (fun v=>jo v x (zN g)) out).1++x::out.drop (atX (fun v=>jo v x (zN g)) out).1) else out
def jc(G:List (List Int))(i:Nat)(g a:List Int)(l:List (List Int)):List (List Int):=l.foldl (vF G i g a) []
def qbW{G i g a x v out}(h:v∈vF G i g a out x):v∈out\/v=x:=by
 unfold vF at h;split at h
 . split at h
   . exact .inl h
   . simp only[qAC,qAM]at h;rcases h with h|h|h
     . exact .inl (qBa h)
     . exact .inr h
     exact .inl (qBS h)
 exact .inl h
def qbX{G i g a x out}:(vF G i g a out x).length<=out.length+1:=by
 unfold vF;split
 . split
   . omega
   . simp;omega
 omega
def qig(p:Problem)(l:List (List Int))(i:Nat)(g a:List Int)(hgi:p.groups[i]?=some g)(hl:l.length<=1000000)(hG:p.groups.length<=10000000)(hg:∀g∈p.groups,g.length<=1000000/\∀v∈g,0<=v/\v<(a.length:Nat))(hll:∀x∈l,x.length=a.length) :
 Pure prog GG 46 [.agg (qt p),.sl 1 (l.map qx) .none,.int .i64 i,.sl 1 (a.map qh) .none] (.sl 1 ((jc p.groups i g a l).map qx) .none):=by
 refine qEG qe func46 rfl (by kernel_rfl) ?_;obtain⟨RES,hRES⟩:∃RES,RES=jc p.groups i g a l:=⟨_,rfl⟩;rw[<- hRES];have hil:=(qAm.1 hgi).1;have hgg:=hg g (qAn hgi);have hag0:=fun(x:List Int) (hx:x.length=a.length)=>qgM p 0 i x a (by omega) (by omega) hG (fun g' hg'=>⟨by have:=(hg g' hg').1;omega,fun v hv=>by have:=(hg g' hg').2 v hv;rw[hx];exact⟨this.1,this.2,this.2⟩⟩)
 have hag1:=fun(x y:List Int) (hx:x.length=a.length) (hy:y.length=a.length)=>qgM p i (i+1) x y (by omega) (by omega) hG (fun g' hg'=>⟨by have:=(hg g' hg').1;omega,fun v hv=>by have:=(hg g' hg').2 v hv;rw[hx,hy];exact⟨this.1,this.2,this.2⟩⟩)
 have hle:=fun(x y:List Int) (hx:x.length=a.length) (hy:y.length=a.length)=>qrQ p i g x y hgi hgg.1 (fun v hv=>by have:=hgg.2 v hv;rw[hx,hy];exact⟨this.1,this.2,this.2⟩)
 simp only[qt,qBG]at hag0 hag1 hle;simp;refine qEO (fun m ev U=>∃k s O T tok,m=l.length-k/\k<=l.length/\ev 1=.sl 1 (l.map qx) .none/\ev 2=.int .i64 i/\ev 3=.sl 1 (a.map qh) .none/\ev 4=.ptr 0 0/\ev 9=.sl s (O.map qx) tok/\(tok=.none\/tok=.nil)/\(s=1\/O=[])/\ev 10=.int .i64 k/\U=⟨[.cells (qt p)],T⟩/\(∀x∈O,x.length=a.length)/\O.length<=k/\RES=(l.drop k).foldl (vF p.groups i g a) O) l.length ?_ ?_
 . exact⟨0,0,[],[],.nil,rfl,by omega,by simp,by simp,by simp,by simp,by simp,.inr rfl,.inr rfl,by simp,by simp,by simp,by simp,hRES⟩
 rintro m ev U R hR ⟨k,s,O,T,tok,rfl,hk,e1,e2,e3,e4,e9,htok,hsO,e10,rfl,hO,hOk,hrk⟩;by_cases hlt:k<l.length
 case neg=>
  rw[show l.drop k=[] by simp;omega]at hrk;have hrk:=hrk;have hlt':¬(k:Int)<l.length:=by omega
  rw[hrk];have hn:qZ (O.map qx)=true:=zp (fun x=>by simp) O;simp[e1,e9,e10,hlt'];rcases htok with rfl|rfl<;>rcases hsO with rfl|rfl<;>simp[qO,hn,Leq,qES]
 have hw:=wr (n:=(k:Int)+1) (by omega) (by omega);obtain⟨x,hx⟩:∃x,l[k]?=some x:=⟨_,qAo hlt⟩;have hxl:=hll x (qAn hx);rw[zb hx,qA1]at hrk;have h0:=hag0 x hxl;simp[e1,e2,e3,e4,e10,show(k:Int)<l.length by omega,hx];refine qEJ (G:=zk GG) h0 (by simp) ?_
 cases hc:ja p.groups 0 i x a with
 | false=>
  have hst:vF p.groups i g a O x=O:=by unfold vF;rw[if_neg (by simp[hc])]
  rw[hst]at hrk;simp[unA,e10,hw];exact hR (l.length-(k+1)) _ _ (by omega) ⟨k+1,s,O,T,tok,rfl,by omega,by simp[e1],by simp[e2],by simp[e3],by simp[e4],by simp[e9],htok,hsO,by simp,by simp,hO,by omega,hrk⟩
 | true=>
  simp[unA,e10];have hOl:O.length<=1000000:=by omega
  refine qEO (fun m ev U=>∃q,m=O.length-q/\q<=O.length/\ev 1=.sl 1 (l.map qx) .none/\ev 2=.int .i64 i/\ev 3=.sl 1 (a.map qh) .none/\ev 4=.ptr 0 0/\ev 9=.sl s (O.map qx) tok/\ev 10=.int .i64 k/\U=⟨[.cells (qt p)],T⟩/\ev 11=.int .i64 ((atX (fun v=>jo v x (zN g)) (O.take q)).1:Nat)/\ev 12=.bool ((O.take q).any (fun v=>ja p.groups i (i+1) v x))/\ev 13=.int .i64 q) O.length ?_ ?_
  . exact⟨0,rfl,by omega,by simp[e1],by simp[e2],by simp[e3],by simp[e4],by simp[e9],by simp[e10],by simp,by simp[atX],by simp,by simp⟩
  rintro m ev U R2 hR2 ⟨q,rfl,hq,e1,e2,e3,e4,e9,e10,rfl,e11,e12,e13⟩;by_cases hqo:q<O.length
  case neg=>
   have htk:O.take q=O:=qAs (by omega);rw[htk]at e11 e12;have hqo':¬(q:Int)<O.length:=(by omega);have hat:=(qeY (fun v=>jo v x (zN g)) O).2;have hin:=qkn O (atX (fun v=>jo v x (zN g)) O).1 x hat hOl;have hsm:=fun v (hv:v∈vF p.groups i g a O x)=>qbW hv
   have hsl:(vF p.groups i g a O x).length<=O.length+1:=qbX;rw[show vF p.groups i g a O x=if O.any (fun v=>ja p.groups i (i+1) v x)=true then O else O.take (atX (fun v=>jo v x (zN g)) O).1++x::O.drop (atX (fun v=>jo v x (zN g)) O).1 by unfold vF;rw[if_pos hc]]at hrk hsm hsl;generalize (atX (fun v=>jo v x (zN g)) O).1=AT at *
   cases hkn:O.any (fun v=>ja p.groups i (i+1) v x) with
   | true=>
    rw[hkn]at e12;rw[hkn,if_pos rfl]at hrk;simp[unA,e9,e10,e12,e13,hqo',hw];exact hR (l.length-(k+1)) _ _ (by omega) ⟨k+1,s,O,T,tok,rfl,by omega,by simp[e1],by simp[e2],by simp[e3],by simp[e4],by simp[e9],htok,hsO,by simp,by simp,hO,by omega,hrk⟩
   | false=>
    rw[hkn]at e12;rw[hkn,if_neg (by simp)]at hrk hsm hsl;generalize O.take AT++x::O.drop AT=O2 at *;simp[unA,e1,e9,e10,e11,e12,e13,hqo',hx];refine qEK (G:=zk GG) hin ?_ ?_ ?_
    . have hn:qZ (O.map qx)=true:=zp (fun x=>by simp) O;rcases htok with rfl|rfl<;>simp[hn]
    . rcases htok with rfl|rfl<;>rcases hsO with rfl|rfl<;>simp[zn,Leq,qES]
    simp[e10,hw];exact hR (l.length-(k+1)) _ _ (by omega) ⟨k+1,1,O2,T,.none,rfl,by omega,by simp[e1],by simp[e2],by simp[e3],by simp[e4],by simp,.inl rfl,.inl rfl,by simp,by simp,fun v hv=>by
     rcases hsm v hv with h|h
     . exact hO v h
     rw[h];exact hxl,by omega,hrk⟩
  have hs1:=hsO.resolve_right (fun h=>by rw[h]at hqo;simp at hqo);subst hs1;obtain⟨y,hy⟩:∃y,O[q]?=some y:=⟨_,qAo hqo⟩;have hyl:=hO y (qAn hy);have htk:O.take (q+1)=O.take q++[y]:=by rw[qAT,hy];rfl
  have hwq:=wr (n:=(q:Int)+1) (by omega) (by omega);have hwi:=wr (n:=(i:Int)+1) (by omega) (by omega);have h1:=hle y x hyl hxl;have h2:=hag1 y x hyl hxl;have hal:=(qeY (fun v=>jo v x (zN g)) (O.take q)).1;rw[qA8,qBL hq]at hal;have hsn:=qba (fun v=>jo v x (zN g)) (O.take q) y;rw[hal]at hsn;simp[e1,e2,e4,e9,e10,e13,show(q:Int)<O.length by omega,hy,hx];refine qEJ (G:=zk GG) h1 (by simp) ?_;rw[show((i+1:Nat):Int)=(i:Int)+1 by omega]at h2;have fin:∀ev',ev' 1=.sl 1 (l.map qx) .none->ev' 2=.int .i64 i->ev' 3=.sl 1 (a.map qh) .none->ev' 4=.ptr 0 0->ev' 9=.sl 1 (O.map qx) tok->ev' 10=.int .i64 k->ev' 11=.int .i64 ((if jo y x (zN g)=true then q+1 else(atX (fun v=>jo v x (zN g)) (O.take q)).1:Nat):Int)->ev' 12=.bool ((O.take q).any (fun v=>ja p.groups i (i+1) v x)||ja p.groups i (i+1) y x)->ev' 13=.int .i64 ((q:Int)+1)->R2 ev' ⟨[.cells (qt p)],T⟩:=fun ev' a1 a2 a3 a4 a9 a10 a11 a12 a13=>
   hR2 (O.length-(q+1)) _ _ (by omega) ⟨q+1,rfl,by omega,a1,a2,a3,a4,a9,a10,rfl,by rw[a11,show(atX (fun v=>jo v x (zN g)) (O.take (q+1))).1=if jo y x (zN g)=true then q+1 else(atX (fun v=>jo v x (zN g)) (O.take q)).1 by rw[htk,hsn]],by rw[a12,show(O.take (q+1)).any (fun v=>ja p.groups i (i+1) v x)=((O.take q).any (fun v=>ja p.groups i (i+1) v x)||ja p.groups i (i+1) y x) by rw[htk,List.any_append];simp],by rw[a13];simp⟩
  generalize (O.take q).any (fun v=>ja p.groups i (i+1) v x)=KN at *;generalize (atX (fun v=>jo v x (zN g)) (O.take q)).1=AT at *;simp only[qt]at fin
  cases hls:jo y x (zN g) with
  | true=>
   rw[hls]at fin
   cases KN with
   | true=>
    simp[e12,e13,hwq];exact fin _ (by simp[e1]) (by simp[e2]) (by simp[e3]) (by simp[e4]) (by simp[e9]) (by simp[e10]) (by simp) (by simp) (by simp)
   | false=>
    simp[e1,e2,e4,e9,e10,e12,e13,hwq,hwi,hy,hx];refine qEJ (G:=zk GG) h2 (by simp) ?_;simp[e13,hwq];exact fin _ (by simp[e1]) (by simp[e2]) (by simp[e3]) (by simp[e4]) (by simp[e9]) (by simp[e10]) (by simp) (by simp) (by simp)
  | false=>
   rw[hls]at fin
   cases KN with
   | true=>
    simp[e12,e13,hwq];exact fin _ (by simp[e1]) (by simp[e2]) (by simp[e3]) (by simp[e4]) (by simp[e9]) (by simp[e10]) (by simp[e11]) (by simp) (by simp)
   | false=>
    simp[e1,e2,e4,e9,e10,e12,e13,hwi,hy,hx];refine qEJ (G:=zk GG) h2 (by simp) ?_;simp[e13,hwq];exact fin _ (by simp[e1]) (by simp[e2]) (by simp[e3]) (by simp[e4]) (by simp[e9]) (by simp[e10]) (by simp[e11]) (by simp) (by simp)
def qo1(n):∃k p,IntKind.i64.wrap n=p/\p=n+18446744073709551616*k/\-9223372036854775808<=p/\p<9223372036854775808:=by
 refine⟨(IntKind.i64.wrap n-n)/18446744073709551616,_,rfl,?_,?_,?_⟩
 all_goals
  simp only[IntKind.wrap,IntKind.bits,IntKind.signed];simp;omega
def ZI(n)(h0 : -9223372036854775807<=n)(h1:n<=9223372036854775807):Pure prog GG 319 [.int .i64 n] (.int .i64 (if 0<n then -n else n)):=by
 refine qEG qe func319 rfl (by kernel_rfl) ?_;by_cases h:0<n
 . simp[h,unA,show IntKind.i64.wrap (-n) = -n from wr (by omega) (by omega)]
 simp[h]
def qrr{a b p k}(hp:p=a*b+18446744073709551616*k)(hk:k≠0)(ha : -9223372036854775807<=a)(ha1:a<=9223372036854775807)(hb : -9223372036854775807<=b)(hb1:b<=9223372036854775807)(hb0:b≠0)
 (h0 : -9223372036854775808<=p) (h1:p<9223372036854775808) (hbig:9223372036854775808<=a*b):IntKind.i64.wrap (p.tdiv b)≠a:=by
 intro he;have hdm:=Int.mul_tdiv_add_tmod p b;have hr:(p.tmod b).natAbs<b.natAbs:=by
  rw[Int.natAbs_tmod];exact qCZ _ (by omega)
 obtain⟨q,hq⟩:∃q,p.tdiv b=q:=⟨_,rfl⟩;obtain⟨r,hre⟩:∃r,p.tmod b=r:=⟨_,rfl⟩;rw[hq]at he hdm;rw[hre]at hdm hr;have hqa:q.natAbs<=p.natAbs:=by rw[<- hq,Int.natAbs_tdiv];exact qBy _ _
 have hq2:q=a\/(q=9223372036854775808/\a = -9223372036854775808):=by
  obtain⟨k2,p2,e1,e2,e3,e4⟩:=qo1 q;rw[e1]at he;omega
 rcases hq2 with rfl|⟨_,h⟩
 . rw[Int.mul_comm]at hdm;omega
 omega
def qea(a b:Int)(P:Nat)(hP:a*b=P)(ha : -9223372036854775807<=a)(ha1:a<=9223372036854775807)(hb : -9223372036854775807<=b)(hb1:b<=9223372036854775807) :
 Pure prog GG 211 [.int .i64 a,.int .i64 b] (.tup [.int .i64 (J2 P).1,.int .i64 (J2 P).2]):=by
 refine qEG qe func211 rfl (by kernel_rfl) ?_;generalize hr:J2 P=r;unfold J2 at hr;by_cases ha0:a=0
 . subst ha0;have:P=0:=by omega
   subst this;simp at hr;subst hr;simp
 by_cases hb0:b=0
 . subst hb0;have:P=0:=by omega
   subst this;simp at hr;subst hr;simp[ha0]
 have hal:¬a = -9223372036854775808:=by omega
 have hbl:¬b = -9223372036854775808:=by omega
 obtain⟨k,p,hw,hpk,hp0,hp1⟩:=qo1 (a*b);by_cases hf:P<9223372036854775808
 . rw[if_pos hf]at hr;subst hr;have hpP:p=a*b:=(by omega);have hq:IntKind.i64.wrap (p.tdiv b)=a:=by
    rw[hpP,Int.mul_tdiv_cancel _ hb0,wr (by omega) (by omega)]
   rw[hP]at hw hpP;rw[hpP]at hw hq;rw[qBN (by omega)]at hq;simp[ha0,hb0,hal,hbl,hw,hq,hP]
 rw[if_neg hf]at hr;subst hr;have hq:=qrr (a:=a) (b:=b) (p:=p) (k:=k) hpk (by omega) ha ha1 hb hb1 hb0 hp0 hp1 (by omega);simp[ha0,hb0,hal,hbl,hw,hq]
def qq9(a b:Nat)(ha:0<a)(hb:0<b)(ha1:a<=9223372036854775807)(hb1:b<=9223372036854775807):Pure prog GG 320 [.int .i64 a,.int .i64 b] (.int .i64 (Nat.gcd a b:Nat)):=by
 have h1:=ZI a (by omega) (by omega);have h2:=ZI b (by omega) (by omega);rw[if_pos (by omega)]at h1 h2;refine qEG qe func320 rfl (by kernel_rfl) ?_;generalize hgg:Nat.gcd a b=g at *;simp;refine qEJ h1 (by simp) ?_;simp;refine qEJ h2 (by simp) ?_;simp;refine qEO (fun n ev U=>∃x y:Nat,n=y/\x<=9223372036854775807/\y<=9223372036854775807/\ev 5=.int .i64 (-(x:Int))/\ev 6=.int .i64 (-(y:Int))/\Nat.gcd x y=g) b ⟨a,b,rfl,ha1,hb1,by simp,by simp,hgg⟩ ?_;rintro y ev U R hR ⟨x,_,rfl,hx,hy,h5,h6,hgx⟩;by_cases hz:y=0
 . subst hz;simp at hgx;subst hgx;simp[h5,h6,show ¬(-(x:Int)) = -9223372036854775808 by omega,unA,show IntKind.i64.wrap (x:Int)=x from wr (by omega) (by omega)]
 have hm:(-(x:Int)).tmod (-(y:Int)) = -((x%y:Nat):Int):=by
  rw[Int.tmod_neg,Int.neg_tmod,qB8 (by omega)];omega
 simp[h5,h6,hz,hm];refine hR (x%y) _ _ (qCZ _ (by omega)) ⟨y,x%y,rfl,hy,by have:=qCZ x (show 0<y by omega);omega,by simp,by simp,?_⟩;rw[qDi y,<- Nat.gcd_rec,qDi];exact hgx
def qq7(a b:Nat)(ha:0<a)(hb:0<b)(ha1:a<=9223372036854775807)(hb1:b<=9223372036854775807):Pure prog GG 280 [.int .i64 a,.int .i64 b] (.tup [.int .i64 (J2 (Nat.lcm a b)).1,.int .i64 (J2 (Nat.lcm a b)).2]):=by
 have h1:=ZI a (by omega) (by omega);have h2:=ZI b (by omega) (by omega);rw[if_pos (by omega)]at h1 h2;have hgc:=qq9 a b ha hb ha1 hb1;have hg:=qD9 b ha;have hgl:=qCG ha (qCP a b);have hlcm:a/Nat.gcd a b*b=Nat.lcm a b:=by
  unfold Nat.lcm;exact qEi (qCP a b) b
 have hq:a/Nat.gcd a b<=a:=qBy _ _;obtain⟨g,hge⟩:∃g,Nat.gcd a b=g:=⟨_,rfl⟩;obtain⟨q,hqe⟩:∃q,a/g=q:=⟨_,rfl⟩;obtain⟨l,hle⟩:∃l,Nat.lcm a b=l:=⟨_,rfl⟩;rw[hge]at hg hgl hlcm hq hgc;rw[hqe]at hlcm hq;rw[hle]at hlcm⊢;have hmul:=qea (-(q:Int)) (-(b:Int)) l (by rw[Int.neg_mul_neg,<- hlcm];simp) (by omega) (by omega) (by omega) (by omega);have hdiv:(-(a:Int)).tdiv g = -(q:Int):=by
  rw[Int.neg_tdiv,qBN (by omega)];omega
 refine qEG qe func280 rfl (by kernel_rfl) ?_;simp[show ¬a=0 by omega,show ¬b=0 by omega,show ¬(a:Int) = -9223372036854775808 by omega,show ¬(b:Int) = -9223372036854775808 by omega];refine qEJ h1 (by simp) ?_;simp;refine qEJ hgc (by simp) ?_;simp[show ¬g=0 by omega,hdiv,show IntKind.i64.wrap (-(q:Int)) = -(q:Int) from wr (by omega) (by omega)];refine qEJ h2 (by simp) ?_;simp;refine qEJ hmul (by simp) ?_;simp
def qhx(l)(hl:Fits l)(width):Pure prog GG 279 [.sl 4 (l.map qw) .none,.int .i64 width] (.int .i64 (yn l width)):=by
 refine qEG qe func279 rfl (by kernel_rfl) ?_;generalize hr:yn l width=r;unfold yn at hr;by_cases hw:width<1\/8<width
 . rw[if_pos hw]at hr;subst hr;rcases hw with h|h
   . simp[h]
   have:¬width<1:=by omega
   simp[h,this]
 rw[if_neg hw]at hr;have h1:¬width<1:=by omega
 have h2:¬8<width:=by omega
 have hcv:IntKind.u64.wrap width=width:=wru (by omega) (by omega);have hsh:=qt5 (w:=width) (by omega) (by omega);by_cases hb:16<l.length
 . rw[if_pos hb]at hr;subst hr;have hb':(16:Int)<l.length:=(by omega);simp[h1,h2,hb']
 rw[if_neg hb]at hr;have hb':¬(16:Int)<l.length:=by omega
 have hNb:2^width.toNat<=2^8:=qAV (by omega) (by omega);generalize 2^width.toNat=N at hr hsh hNb;simp[h1,h2,hb'];refine qEZ l (fun d ev U=>ev 0=.sl 4 (l.map qw) .none/\ev 1=.int .i64 width/\ev 5=.int .i64 d.length/\d.any (qio N)=false) ?_ ?_ ?_
 . simp
 . rintro d w rest ev U R hR hd hx hlt ⟨e0,e1,e5,ha⟩;have hbad:qio N w=true->r=1:=fun h=>by
    have hlz:¬l.length=0:=(by omega);have:l.any (qio N)=true:=by rw[hd];simp[h]
    rw[if_neg hlz,if_pos this]at hr;exact hr.symm
   simp[-getElem?_pos,e0,e1,e5,hlt,hx,show ¬width<0 by omega,hcv,wE,hsh,show IntKind.i64.wrap ((d.length:Int)+1)=(d.length+1:Nat) by rw[wr (by omega) (by omega)];omega]
   repeat' first|(with_reducible refine And.intro ?_ ?_)|(intro _)
   all_goals first
    |exact(hbad (by unfold qio;simp;omega)).symm
    |exact hR _ _ ⟨by simp[e0],by simp[e1],by simp,by simp[qio,ha];omega⟩
 rintro ev U ⟨e0,e1,e5,ha⟩;rw[if_neg (show ¬l.any (qio N)=true by rw[ha];simp)]at hr;by_cases hz:l.length=0
 . rw[if_pos hz]at hr;subst hr;have hz':=qAA hz;simp[e0,e5,hz']
 rw[if_neg hz]at hr;subst hr;have hz':l≠[]:=fun e=>hz (by rw[e];rfl)
 simp[e0,e5,hz']
def qjq(l)(hl:l.length<=1000):Pure prog GG 209 [.sl 4 (l.map qw) .none]
 (.tup [.int .i64 (if yn l 8=0 then(zK l 1).1 else 0),.int .i64 (if yn l 8=0 then(zK l 1).2 else yn l 8)]):=by
 have hv:=qhx l (by unfold Fits;omega) 8;refine qEG qe func209 rfl (by kernel_rfl) ?_;simp;refine qEJ hv (by simp) ?_;by_cases h:yn l 8=0
 . have hw:=(vP h).1;simp[h];generalize hr:zK l 1=r;refine qEZ l (fun d ev U=>ev 0=.sl 4 (l.map qw) .none/\ev 6=.int .i64 d.length/\∃s:Nat,ev 5=.int .i64 s/\0<s/\s<9223372036854775808/\zK (l.drop d.length) s=r) ?_ ?_ ?_
   . exact⟨by simp,by simp,1,by simp,by omega,by omega,by simpa using hr⟩
   . rintro d w rest ev U R hR hd hx hlt ⟨e0,e6,s,e5,hs0,hs1,hsc⟩;have hdw:IntKind.i64.wrap ((d.length:Int)+1)=(d.length+1:Nat):=(by rw[wr (by omega) (by omega)];omega);obtain⟨w0,w1,w2,w3,w4⟩:=hw w (qAn hx);rw[show l.drop d.length=w::l.drop (d.length+1) by rw[hd];simp]at hsc;have hwp:=Jg w1;have hsz:(wsz w:Int)=w.hi-w.lo+1:=(by unfold wsz;omega);have e1:IntKind.i64.wrap (w.hi-w.lo)=w.hi-w.lo:=wr (by omega) (by omega);have e2:IntKind.i64.wrap (w.hi-w.lo+1)=w.hi-w.lo+1:=wr (by omega) (by omega);have h3:=qq7 s (wsz w) hs0 hwp (by omega) (by omega);rw[hsz]at h3;have hlp:=Nat.lcm_pos hs0 hwp;have hgo:∀(s':Nat) (ev':Env) (U':St),0<s'->s' < 9223372036854775808->zK (l.drop (d.length+1)) s'=r->ev' 0=.sl 4 (l.map qw) .none->ev' 6=.int .i64 (d.length+1:Nat)->ev' 5=.int .i64 s'->R ev' U':=fun s' ev' U' a1 a2 a3 a4 a7 a8=>
      hR _ _ ⟨a4,by simpa using a7,s',a8,a1,a2,by simpa using a3⟩
     cases hea:w.each
     . simp only[zK,hea,qAP,if_false]at hsc;simp[-getElem?_pos,e0,e5,e6,hlt,hx,hea,e1,e2];refine qEJ h3 (by simp) ?_;generalize Nat.lcm s (wsz w)=L at hsc hlp⊢;by_cases hL:L<9223372036854775808
       . rw[if_pos hL]at hsc;simp[J2,hL,e6,hdw];exact hgo L _ _ hlp hL hsc (by simp[e0]) (by simp) (by simp)
       rw[if_neg hL]at hsc;subst hsc;simp[J2,hL]
     simp only[zK,hea,if_true]at hsc;simp[-getElem?_pos,e0,e6,hlt,hx,hea,hdw];exact hgo s _ _ hs0 hs1 hsc (by simp[e0]) (by simp) (by simp[e5])
   rintro ev U ⟨e0,e6,s,e5,hs0,hs1,hsc⟩;rw[qBk]at hsc;simp only[zK]at hsc;subst hsc;simp[e0,e6,e5]
 simp[h]
def qju(l)(hl:Fits l)(v):Pure prog GG 210 [.sl 4 (l.map qw) .none,.int .i64 v] (.int .i64 (zm (fun w:Weight=>decide (w.lo<=v)&&decide (v<=w.hi)) l 0)):=by
 refine qEG qe func210 rfl (by kernel_rfl) ?_;generalize hr:zm (fun w:Weight=>decide (w.lo<=v)&&decide (v<=w.hi)) l 0=r;simp;refine qEZ l (fun d ev U=>ev 0=.sl 4 (l.map qw) .none/\ev 1=.int .i64 v/\ev 5=.int .i64 d.length/\zm (fun w:Weight=>decide (w.lo<=v)&&decide (v<=w.hi)) (l.drop d.length) d.length=r) ?_ ?_ ?_
 . exact⟨by simp,by simp,by simp,by simpa using hr⟩
 . rintro d w rest ev U R hR hd hx hlt ⟨e0,e1,e5,hf⟩;rw[show l.drop d.length=w::l.drop (d.length+1) by rw[hd];simp]at hf;simp only[zm]at hf;by_cases hc:w.lo<=v/\v<=w.hi
   . rw[if_pos (by simpa using hc)]at hf;subst hf;simp[-getElem?_pos,e0,e1,e5,hlt,hx,hc]
   rw[if_neg (by simpa using hc)]at hf;simp[-getElem?_pos,e0,e1,e5,hlt,hx,show IntKind.i64.wrap ((d.length:Int)+1)=(d.length+1:Nat) by rw[wr (by omega) (by omega)];omega]
   repeat' first|(with_reducible refine And.intro ?_ ?_)|(intro _)
   all_goals first
    |(exfalso;omega)
    |exact hR _ _ ⟨by simp[e0],by simp[e1],by simp,by simpa using hf⟩
 rintro ev U ⟨e0,e1,e5,hf⟩;rw[qBk]at hf;simp only[zm]at hf;subst hf;simp[-getElem?_pos,e0,e5]
def VL{α}(p):∀(l:List α) (i:Nat),(zm p l i = -1/\l.find? p=none)\/∃k w,zm p l i=((i+k:Nat):Int)/\l[k]?=some w/\l.find? p=some w
 |[],i=>.inl ⟨rfl,rfl⟩
 | a::r,i=>by
  by_cases h:p a=true
  . exact .inr ⟨0,a,by simp[zm,h],by simp,by simp[h]⟩
  have ih:=VL p r (i+1);have e:zm p (a::r) i=zm p r ((i+1:Nat):Int):=by simp[zm,h]
  rw[e];rcases ih with⟨h1,h2⟩|⟨k,w,h1,h2,h3⟩
  . exact .inl ⟨h1,by simp[h,h2]⟩
  exact .inr ⟨k+1,w,by rw[h1];congr 1;omega,by simpa using h2,by simp[h,h3]⟩
def qht(l)(hl:l.length<=1000)(v):Pure prog GG 141 [.sl 4 (l.map qw) .none,.int .i64 v] (.tup [.int .i64 (zR l v).1,.int .i64 (zR l v).2]):=by
 have hs:=qjq l hl;have hf:=qju l (by unfold Fits;omega) v;refine qEG qe func141 rfl (by kernel_rfl) ?_;generalize hr:zR l v=r;unfold zR at hr;simp;refine qEJ hs (by simp) ?_;by_cases h:yn l 8=0
 . have hw:=(vP h).1;rw[if_neg (by simp[h])]at hr;rcases y9 l 1 hw (by omega) (by omega) with⟨h1,h2,h3⟩|h1
   . rw[if_neg (by simp[h1])]at hr;obtain⟨s,hse⟩:∃s:Nat,(zK l 1).1=s:=⟨(zK l 1).1.toNat,by omega⟩;rw[hse]at hr h2 h3;simp at hr;simp[h,h1,hse];refine qEJ hf (by simp) ?_;have hff:=VL (fun w:Weight=>decide (w.lo<=v)&&decide (v<=w.hi)) l 0;simp only[qBG,qBQ]at hff;unfold vJ JX at hr;rcases hff with⟨k1,k2⟩|⟨k,w,k1,k2,k3⟩
     . rw[k2]at hr;simp only at hr;subst hr;simp[k1]
     rw[k3]at hr;simp only at hr;obtain⟨w0,w1,w2,w3,w4⟩:=hw w (qAn k2);obtain⟨c,hk⟩:∃c:Nat,w.weight=c:=⟨w.weight.toNat,by omega⟩;have hwp:=Jg w1;have hsz:w.hi-w.lo+1=(wsz w:Int):=(by unfold wsz;omega);have e1:IntKind.i64.wrap (w.hi-w.lo)=w.hi-w.lo:=wr (by omega) (by omega);have e2:IntKind.i64.wrap (w.hi-w.lo+1)=wsz w:=(by rw[<- hsz];exact wr (by omega) (by omega));have hm1:=qea c s (c*s) (by simp) (by omega) (by omega) (by omega) (by omega);have hq:s/wsz w<=s:=qBy _ _;have hkt:w.weight.toNat=c:=(by omega);rw[hkt]at hr;have hn0:¬((k:Int)<0):=(by omega);have hkl:=(qAm.1 k2).1;generalize hz:wsz w=z at *;have hz0:¬z=0:=(by omega);obtain⟨q,hqe⟩:∃q,s/z=q:=⟨_,rfl⟩;have hdiv:(s:Int)/z=q:=(by rw[<- hqe];simp);rw[hqe]at hr hq;have hm2:=qea c q (c*q) (by simp) (by omega) (by omega) (by omega) (by omega);have hqu:=wr (n:=q) (by omega) (by omega);cases hea:w.each
     . rw[hea]at hr;simp only[qAP,if_false]at hr;subst hr;simp[-getElem?_pos,k1,k2,hn0,hea,hk,e1,e2,hz0,hdiv,hqu];refine qEJ hm2 (by simp) ?_;simp
     rw[hea]at hr;simp only[if_true]at hr;subst hr;simp[-getElem?_pos,k1,k2,hn0,hea,hk];refine qEJ hm1 (by simp) ?_;simp
   rw[h1]at hr;simp at hr;subst hr;simp[h,h1]
 rw[if_pos h]at hr;subst hr;simp[h]
def qiv(v x:Int)(acc:Int)(d:Dist):Option Int :=
 if d.var≠v then some acc
 else if(zR d.weights x).2≠0\/(0<(zR d.weights x).1/\1099511627776/(zR d.weights x).1<acc) then none
 else some (acc*(zR d.weights x).1)
def YR(ds:List Dist)(v x:Int)(acc:Option Int):Option Int:=ds.foldl (fun s d=>s.bind fun n=>qiv v x n d) acc
def ql9(ds:List Dist)(a:List Int)(g:List Int):Option Int:=g.foldl (fun s v=>YR ds v (a.getD v.toNat 0) s) (some 1)
def qo3(o:Option Int):Int×Bool:=match o with
 |some n=>(n,true)
 |none=>(0,false)
def Zt(ds v x):YR ds v x none=none:=by
 unfold YR
 induction ds with
 |nil=>rfl
 |cons d ds ih=>exact ih
def Zu(ds)(a:List Int)(g:List Int):g.foldl (fun s v=>YR ds v (a.getD v.toNat 0) s) none=none:=by
 induction g with
 |nil=>rfl
 |cons v g ih=>rw[qA1,Zt];exact ih
def WV{v x acc n d}(h0:0<=acc)(h1:acc<=1099511627776)(h:qiv v x acc d=some n):0<=n/\n<=1099511627776:=by
 unfold qiv at h;split at h
 . cases h;exact⟨h0,h1⟩
 split at h
 . cases h
 rename_i h2;cases h;have hw:=Qv d.weights x;generalize (zR d.weights x).1=w at *;refine⟨Int.mul_nonneg h0 hw,?_⟩;by_cases hw0:0<w
 . have h3:¬1099511627776/w<acc:=fun h=>h2 (.inr ⟨hw0,h⟩)
   exact(Int.le_ediv_iff_mul_le hw0).1 (by omega)
 have:w=0:=by omega
 rw[this];simp
def qma(p:Problem)(i:Nat)(g a:List Int)(hgi:p.groups[i]?=some g)(hgl:g.length<=1000000)(hgv:∀v∈g,0<=v/\v<(a.length:Nat))(hd:p.dists.length<=10000)(hwl:∀d∈p.dists,d.weights.length<=1000) :
 Pure prog GG 88 [.agg (qt p),.int .i64 i,.sl 1 (a.map qh) .none] (.tup [.int .i64 (qo3 (ql9 p.dists a g)).1,.bool (qo3 (ql9 p.dists a g)).2]):=by
 refine qEG qe func88 rfl (by kernel_rfl) ?_;obtain⟨RES,hRES⟩:∃RES,RES=ql9 p.dists a g:=⟨_,rfl⟩;rw[<- hRES];simp;refine qEO (fun m ev U=>∃k acc,m=g.length-k/\k<=g.length/\0<=acc/\acc<=1099511627776/\ev 1=.int .i64 i/\ev 2=.sl 1 (a.map qh) .none/\ev 3=.ptr 0 0/\ev 8=.int .i64 acc/\ev 9=.int .i64 k/\U=⟨[.cells (qt p)],[]⟩/\RES=(g.drop k).foldl (fun s v=>YR p.dists v (a.getD v.toNat 0) s) (some acc)) g.length ?_ ?_
 . exact⟨0,1,rfl,by omega,by omega,by omega,by simp,by simp,by simp,by simp,by simp,by simp,hRES⟩
 rintro m ev U R hR ⟨k,acc,rfl,hk,ha0,ha1,e1,e2,e3,e8,e9,rfl,hrk⟩;by_cases hlt:k<g.length
 case neg=>
  have hdr:g.drop k=[]:=by simp;omega
  rw[hdr]at hrk;have hrk:=hrk;have hlt':¬(k:Int)<g.length:=by omega
  simp[e1,e3,e8,e9,hgi,hlt',hrk,qo3]
 have hw:=wr (n:=(k:Int)+1) (by omega) (by omega);obtain⟨v,hv⟩:∃v,g[k]?=some v:=⟨_,qAo hlt⟩;obtain⟨v0,va⟩:=hgv v (qAn hv);obtain⟨w,rfl⟩:=qAH v0;obtain⟨x,hx⟩:∃x,a[w]?=some x:=⟨_,qAo (by omega)⟩;rw[zb hv,qA1]at hrk;simp only[qAS,List.getD,hx,qD2]at hrk;simp[e1,e3,e9,hgi,show(k:Int)<g.length by omega,hv];refine qEO (fun m ev U=>∃q acc,m=p.dists.length-q/\q<=p.dists.length/\0<=acc/\acc<=1099511627776/\ev 1=.int .i64 i/\ev 2=.sl 1 (a.map qh) .none/\ev 3=.ptr 0 0/\ev 8=.int .i64 acc/\ev 9=.int .i64 k/\ev 10=.int .i64 w/\ev 11=.int .i64 q/\U=⟨[.cells (qt p)],[]⟩/\RES=(g.drop (k+1)).foldl (fun s v=>YR p.dists v ((a[v.toNat]?).getD 0) s) (YR (p.dists.drop q) w x (some acc))) p.dists.length ?_ ?_
 . exact⟨0,acc,rfl,by omega,ha0,ha1,by simp[e1],by simp[e2],by simp[e3],by simp[e8],by simp[e9],by simp,by simp,by simp,hrk⟩
 rintro m ev U R2 hR2 ⟨q,acc,rfl,hq,ha0,ha1,e1,e2,e3,e8,e9,e10,e11,rfl,hrk⟩;by_cases hqd:q<p.dists.length
 case neg=>
  rw[show p.dists.drop q=[] by simp;omega]at hrk;have hqd':¬(q:Int)<p.dists.length:=by omega
  simp[e3,e9,e11,hqd',hw];exact hR (g.length-(k+1)) _ _ (by omega) ⟨k+1,acc,rfl,by omega,ha0,ha1,by simp[e1],by simp[e2],by simp[e3],by simp[e8],by simp,by simp,hrk⟩
 have hqd':(q:Int)<p.dists.length:=by omega
 have hwq:=wr (n:=(q:Int)+1) (by omega) (by omega);obtain⟨d,hdq⟩:∃d,p.dists[q]?=some d:=⟨_,qAo hqd⟩;have hdm:=qAn hdq;have hrw:=qht d.weights (hwl d hdm) x;rw[zb hdq]at hrk;have hst:YR (d::p.dists.drop (q+1)) w x (some acc)=YR (p.dists.drop (q+1)) w x (qiv w x acc d):=rfl;rw[hst]at hrk;have hrg:=fun n=>WV (v:=(w:Int)) (x:=x) (d:=d) (n:=n) ha0 ha1
 have hnn:=Qv d.weights x;unfold qiv at hrk hrg;by_cases hdv:d.var=w
 case neg=>
  rw[if_pos hdv]at hrk;simp[e3,e10,e11,hqd',hdq,hdv,hwq];exact hR2 (p.dists.length-(q+1)) _ _ (by omega) ⟨q+1,acc,rfl,by omega,ha0,ha1,by simp[e1],by simp[e2],by simp[e3],by simp[e8],by simp[e9],by simp[e10],by simp,by simp,hrk⟩
 rw[if_neg (by simp[hdv])]at hrk;simp only[hdv,ne_eq,not_true,if_false]at hrg;simp[e2,e3,e10,e11,hqd',hdq,hdv,hx];refine qEJ (G:=zk GG) hrw (by simp) ?_;generalize (zR d.weights x).1=W at *;generalize (zR d.weights x).2=E at *;by_cases hE:E=0
 case neg=>
  have hN:RES=none:=by rw[hrk,if_pos (.inl hE),Zt];exact Zu _ _ _
  simp[hE,hN,qo3]
 subst hE;by_cases hW:0<W
 case neg=>
  have hW0:W=0:=by omega
  subst hW0;rw[if_neg (by simp),Int.mul_zero _]at hrk;simp[e8,e11,hwq,show IntKind.i64.wrap 0=0 by decide];exact hR2 (p.dists.length-(q+1)) _ _ (by omega) ⟨q+1,0,rfl,by omega,by omega,by omega,by simp[e1],by simp[e2],by simp[e3],by simp,by simp[e9],by simp[e10],by simp,by simp,hrk⟩
 have hW0:¬W=0:=by omega
 have hq1:(1099511627776:Int).tdiv W=1099511627776/W:=qBN (by omega);have hq2:0<=(1099511627776:Int)/W/\(1099511627776:Int)/W<=1099511627776:=⟨Int.ediv_nonneg (by omega) (by omega),Int.ediv_le_self _ (by omega)⟩;have hwd:=wr (n:=(1099511627776:Int)/W) (by omega) (by omega);by_cases hbig:1099511627776/W<acc
 . have hN:RES=none:=(by rw[hrk,if_pos (.inr ⟨hW,hbig⟩),Zt];exact Zu _ _ _);simp[e8,hW,hW0,hq1,hwd,hbig,hN,qo3]
 have hno:¬((0:Int)≠0\/(0<W/\1099511627776/W<acc)):=by
  rintro(h|h)
  . exact h rfl
  exact hbig h.2
 rw[if_neg hno]at hrk;have hr2:=hrg (acc*W) (by rw[if_neg hno]);have hwm:=wr (n:=acc*W) (by omega) (by omega);simp[e8,e11,hW,hW0,hq1,hwd,hbig,hwq,hwm];exact hR2 (p.dists.length-(q+1)) _ _ (by omega) ⟨q+1,acc*W,rfl,by omega,hr2.1,hr2.2,by simp[e1],by simp[e2],by simp[e3],by simp,by simp[e9],by simp[e10],by simp,by simp,hrk⟩
def v1:Var:=⟨[97],1,2,0⟩
def qdC{l:List Var}{a:List Int}{i:Nat}{v:Var}{x:Int}(h:l[i]?=some v)(h':a[i]?=some x):(l.zip a)[i]?=some (v,x):=(qB2 (z:=(v,x))).2 ⟨h,h'⟩
def Wv{l a}(h:¬a.length=l.length):qC l a=false:=by simp[qC,h]
def Yb{l:List Var}{a:List Int}{i:Nat}{v:Var}{x:Int}(h:l[i]?=some v)(h':a[i]?=some x)(hb:zD (v,x)=false):qC l a=false:=by
 unfold qC;rw[qe4 (qAn (qdC h h')) hb,qCX]
def Ja{l a i}(hlen:a.length=l.length)(hi:l.length<=i)(hz:∀q∈(l.zip a).take i,zD q=true):qC l a=true:=by
 unfold qC;rw[decide_eq_true hlen,qBC];exact qbj (by simp;omega) hz
def WZ{v}(h:jW v=0):1<=v.width/\v.width<=8:=(zd h).2
def qlA(p a)(hl:p.vars.length<=1000)(ha:Fits a)(hv:∀v∈p.vars,jW v=0):Pure prog GG 110 [.agg (qt p),.sl 1 (a.map qh) .none] (.bool (qC p.vars a)):=by
 refine qE9 qe func110 rfl (by kernel_rfl) ?_;by_cases hlen:a.length=p.vars.length
 . generalize hr:qC p.vars a=r;simp[hlen];refine qE6 (fun n ev U=>∃i tl,i<=p.vars.length/\n=p.vars.length-i/\ev 1=.sl 1 (a.map qh) .none/\ev 14=.sl 4 (p.vars.map qJ) .none/\ev 15=.int .i64 p.vars.length/\ev 16=.int .i64 i/\U=⟨tl,[]⟩/\∀q∈(p.vars.zip a).take i,zD q=true) p.vars.length ⟨0,_,by simp,by simp,by simp,by simp,by simp,by simp,rfl,by simp⟩ ?_;rintro n ev U ⟨i,tl,hi,rfl,h1,h14,h15,h16,rfl,hz⟩
   cases hvi:p.vars[i]? with
   | some v=>
    obtain⟨hc,hv'⟩:=qAm.1 hvi;have hca:i<a.length:=(by omega);obtain⟨x,hx⟩:∃x,a[i]?=some x:=⟨_,qAo hca⟩;have hx':=(qAm.1 hx).2;obtain⟨w1,w8⟩:=WZ (hv v (qAn hvi));have hs:IntKind.i64.wrap (2^min v.width.toNat IntKind.i64.bits)=2^v.width.toNat:=qvX w1 w8;have hw0:¬v.width<0:=(by omega);have bad:zD (v,x)=false->r=false:=fun hb=>by rw[<- hr];exact Yb hvi hx hb
    have good:zD (v,x)=true->∀q∈(p.vars.zip a).take (i+1),zD q=true:=fun hg=>qW (p:=fun q=>zD q=true) (qdC hvi hx) hz hg
    by_cases c1:x<0
    . rw[bad (by simp only[zD];rw[decide_eq_false (by omega:¬0<=x)];rfl)];simp[h1,h14,h15,h16,hc,hca,hv',hx',qA0,c1]
    by_cases c2:(2:Int)^v.width.toNat<=x
    . rw[bad (by simp only[zD];rw[decide_eq_false (by omega:¬x<2^v.width.toNat)];simp)];simp[h1,h14,h15,h16,hc,hca,hv',hx',qA0,c1,hs,hw0,c2]
    by_cases c3:v.mode=0
    . by_cases c4:x=v.value
      . have g:=good (by simp only[zD];rw[decide_eq_true (by omega:0<=x),decide_eq_true (by omega:x<2^v.width.toNat),decide_eq_true c4];simp);subst c4;simp[h1,h14,h15,h16,hc,hca,hv',hx',qA0,c1,hs,hw0,c2,c3];exact⟨_,by omega,i+1,by omega,rfl,wr (by omega) (by omega),by simpa using g⟩
      . rw[bad (by simp only[zD];rw[decide_eq_true c3,decide_eq_false c4];simp)];simp[h1,h14,h15,h16,hc,hca,hv',hx',qA0,c1,hs,hw0,c2,c3,c4]
    have g:=good (by simp only[zD];rw[decide_eq_true (by omega:0<=x),decide_eq_true (by omega:x<2^v.width.toNat),decide_eq_false c3];simp);simp[h1,h14,h15,h16,hc,hca,hv',hx',qA0,c1,hs,hw0,c2,c3];exact⟨_,by omega,i+1,by omega,rfl,wr (by omega) (by omega),by simpa using g⟩
   | none=>
    have hle:p.vars.length<=i:=(by simpa using hvi);have hc:¬i<p.vars.length:=(by omega);rw[Ja hlen hle hz]at hr;subst hr;simp[h14,h15,h16,hc]
 rw[Wv hlen];simp[show ¬(a.length:Int)=p.vars.length by omega]
def qhA(p a)(h:VP p)(ha:Fits a):Pure prog GG 45 [.agg (qt p),.sl 1 (a.map qh) .none] (.bool (decide (qk p=0)&&qC p.vars a)):=by
 refine qE9 qe func45 rfl (by kernel_rfl) ?_;have hva:=qqB p h;simp only[qt]at hva;generalize hr:(decide (qk p=0)&&qC p.vars a)=r;simp;refine qET hva (by simp) ?_;by_cases h0:qk p=0
 . have hv:=YY h0;rw[decide_eq_true h0,qBC]at hr;by_cases hlen:a.length=p.vars.length
   . simp[h0,hlen];refine qE6 (fun n ev U=>∃i tl,i<=p.vars.length/\n=p.vars.length-i/\ev 1=.sl 1 (a.map qh) .none/\ev 2=.ptr 0 0/\ev 5=.int .i64 i/\U=⟨.cells (qt p)::tl,[]⟩/\∀q∈(p.vars.zip a).take i,zD q=true) p.vars.length ⟨0,[],by simp,by simp,by simp,by simp,by simp,by simp,by simp⟩ ?_;rintro n ev U ⟨i,tl,hi,rfl,h1,h2,h5,rfl,hz⟩
     cases hvi:p.vars[i]? with
     | some v=>
      obtain⟨hc,hv'⟩:=qAm.1 hvi;have hca:i<a.length:=(by omega);obtain⟨x,hx⟩:∃x,a[i]?=some x:=⟨_,qAo hca⟩;have hx':=(qAm.1 hx).2;obtain⟨w1,w8⟩:=WZ (hv v (qAn hvi));have hs:IntKind.i64.wrap (2^min v.width.toNat IntKind.i64.bits)=2^v.width.toNat:=qvX w1 w8;have hw0:¬v.width<0:=(by omega);have bad:zD (v,x)=false->r=false:=fun hb=>by rw[<- hr];exact Yb hvi hx hb
      have good:zD (v,x)=true->∀q∈(p.vars.zip a).take (i+1),zD q=true:=fun hg=>qW (p:=fun q=>zD q=true) (qdC hvi hx) hz hg
      by_cases c4:v.mode=0/\¬x=v.value
      . rw[bad (by simp only[zD];rw[decide_eq_true c4.1,decide_eq_false c4.2];simp)];simp[h1,h2,h5,hc,hca,hv',hx',qA0,c4.1,c4.2]
      by_cases c1:x<0
      . rw[bad (by simp only[zD];rw[decide_eq_false (by omega:¬0<=x)];rfl)];by_cases c3:v.mode=0
        . have c5:=Classical.byContradiction fun hn=>c4 ⟨c3,hn⟩
          subst c5;simp[h1,h2,h5,hc,hca,hv',hx',qA0,c1,c3]
        simp[h1,h2,h5,hc,hca,hv',hx',qA0,c1,c3]
      by_cases c2:(2:Int)^v.width.toNat<=x
      . rw[bad (by simp only[zD];rw[decide_eq_false (by omega:¬x<2^v.width.toNat)];simp)];by_cases c3:v.mode=0
        . have c5:=Classical.byContradiction fun hn=>c4 ⟨c3,hn⟩
          subst c5;simp[h1,h2,h5,hc,hca,hv',hx',qA0,c1,c3,hs,hw0,c2]
        simp[h1,h2,h5,hc,hca,hv',hx',qA0,c1,c3,hs,hw0,c2]
      by_cases c3:v.mode=0
      . have c5:=Classical.byContradiction fun hn=>c4 ⟨c3,hn⟩
        have g:=good (by simp only[zD];rw[decide_eq_true (by omega:0<=x),decide_eq_true (by omega:x<2^v.width.toNat),decide_eq_true c5];simp);subst c5;simp[h1,h2,h5,hc,hca,hv',hx',qA0,c1,hs,hw0,c2,c3];exact⟨_,by omega,i+1,by omega,rfl,wr (by omega) (by omega),by simpa using g⟩
      have g:=good (by simp only[zD];rw[decide_eq_true (by omega:0<=x),decide_eq_true (by omega:x<2^v.width.toNat),decide_eq_false c3];simp);simp[h1,h2,h5,hc,hca,hv',hx',qA0,c1,hs,hw0,c2,c3];exact⟨_,by omega,i+1,by omega,rfl,wr (by omega) (by omega),by simpa using g⟩
     | none=>
      have hle:p.vars.length<=i:=(by simpa using hvi);have hc:¬i<p.vars.length:=(by omega);have hca:¬i<a.length:=(by omega);rw[Ja hlen hle hz]at hr;subst hr;simp[h1,h2,h5,hc,hca]
   rw[Wv hlen]at hr;subst hr;simp[h0,show ¬(a.length:Int)=p.vars.length by omega]
 rw[decide_eq_false h0,qCA]at hr;subst hr;simp[h0]
def qkr(p a e):kc p a e=(decide (qk p=0)&&qC p.vars a&&decide (Qk (yg p.vars a) e=0)&&!decide (jw (yg p.vars a) e=0)):=rfl
def qnS(p a e)(h:VQ p)(ha:Fits a)(hwe:Wen e)(hh:hgt e<=1000)(hsz:(pre e).length<=100000):Pure prog GG 64 [.agg (qt p),.sl 1 (a.map qh) .none,.agg (qp e)] (.bool (kc p a e)):=by
 refine qE9 qe func64 rfl (by kernel_rfl) ?_;have hva:=yW p h;have hen:=qyt p a h.vars ha;have hev:=qpP (yg p.vars a) (by have:=qaY (l:=p.vars) (a:=a);have:=h.vars;omega) e hwe (by omega) hsz;have hr:=qkr p a e;generalize kc p a e=r at hr⊢;simp only[qt]at hva hen;simp only[qc e];simp;refine qET hva (by simp) ?_;by_cases h0:qk p=0
 . have has:=qlA p a h.vars ha (YY h0);simp only[qt]at has;simp[h0];refine qET has (by simp) ?_;rw[decide_eq_true h0,qBC]at hr;cases hc:qC p.vars a
   . rw[hc]at hr;subst hr;simp
   rw[hc,qBC]at hr;simp;refine qET hen (by simp) ?_
   try simp[qc e]
   try rw[<- qc e]
   refine qET hev (by simp) ?_;by_cases h1:Qk (yg p.vars a) e=0
   . by_cases h2:jw (yg p.vars a) e=0
     . rw[decide_eq_true h1,decide_eq_true h2]at hr;subst hr;simp[h1,h2]
     . rw[decide_eq_true h1,decide_eq_false h2]at hr;subst hr;simp[h1,h2]
   rw[decide_eq_false h1]at hr;simp at hr;subst hr;simp[h1]
 rw[decide_eq_false h0]at hr;simp at hr;subst hr;simp[h0]
def qgy{p}(hvp:qk p=0){a e}(h:jw (yg p.vars a) e≠0)(ha:qC p.vars a=true):kc p a e=true:=by
 obtain⟨h1,h2⟩:=qaU h;unfold kc;simp[hvp,ha,h1,h]
def qe5{p}(hvp:qk p=0){a}(ha:a∈jV p.vars):qC p.vars a=true:=by
 have hok:=ko.1 ha;unfold qC;simp only[qAr,decide_eq_true_eq,qAv];refine⟨hok.len,?_⟩;rintro⟨v,x⟩ hx;obtain⟨i,hi⟩:=qA5 hx;obtain⟨h1,h2⟩:=qB2.1 hi;obtain⟨y,hy,hc⟩:=wn hok h1;rw[h2]at hy;cases hy;dsimp only at h1 h2 hc⊢;have hve:=z0 hvp v (qAn h1);have h3:((2^v.width.toNat:Nat):Int)=(2:Int)^v.width.toNat:=by simp
 unfold zD;by_cases hm:v.mode=0
 . rw[if_pos hm]at hc;subst hc;have hvv:=qg9 hve;simp[hm,hvv]
 rw[if_neg hm]at hc;unfold zP at hc;have:x<(2:Int)^v.width.toNat:=by omega
 simp[hm,hc.1,this]
def qhg(e):(qp e).take 4=qp e:=qAs (Nat.le_of_eq (zh e))
def qnQ{c:Nat}{cfr:List AV}(q:Ex->Bool)(l:List Ex)(hl:l.length<=50000)(tok:Abs.Tok)(H:List Blk)(T:List (Option Nat))
 (hc:∀e∈l,∀(H':List Blk) (T':List (Option Nat)),KpL [] H H'->qg prog GG c (.agg (qp e)::cfr) ⟨H',T'⟩ (fun r U'=>r=.bool (q e)/\KpL [] H' U'.H)) :
 qg prog GG 109 [.sl 4 (l.map qp) tok,.fn c [] cfr] ⟨H,T⟩ (fun r U'=>(∃n:Int,r=.int .i64 n/\(l.any q=true->0<=n)/\(l.any q=false->n<0))/\KpL [] H U'.H):=by
 refine qEI qe func109 rfl (by kernel_rfl) ?_;obtain⟨res,hres⟩:∃res,res=l.any q:=⟨_,rfl⟩;rw[<- hres];simp;refine qEZ l (fun d ev U=>ev 0=.sl 4 (l.map qp) tok/\ev 1=.fn c [] cfr/\ev 7=.int .i64 l.length/\ev 8=.int .i64 d.length/\KpL [] H U.H/\res=(l.drop d.length).any q) ?_ ?_ ?_
 . exact⟨by simp,by simp,by simp,by simp,qFf,by simpa using hres⟩
 . rintro d e rest ev ⟨H1,T1⟩ R hR hd hx hlt ⟨e0,e1,e7,e8,hk,hr⟩;have hdw:=wr (n:=(d.length:Int)+1) (by omega) (by omega);have hc1:=hc e (qAn hx) H1 T1 hk;have hdr:l.drop d.length=e::l.drop (d.length+1):=by
    obtain⟨h1,h2⟩:=qAm.1 hx;rw[qAJ h1,h2]
   rw[hdr,qCn]at hr;simp[-qV,e0,e1,e7,e8,show(d.length:Int)<l.length by omega,hx,qhg];refine qEM hc1 ?_;rintro r ⟨H2,T2⟩ ⟨rfl,hk2⟩
   cases hq:q e with
   | true=>
    rw[hq,Bool.true_or]at hr;subst hr;simp[e8];exact hk.trans hk2
   | false=>
    rw[hq,qCS]at hr;simp[e8,hdw];exact hR _ _ ⟨by simp[e0],by simp[e1],by simp[e7],by simp,hk.trans hk2,by rw[qAq];exact hr⟩
 rintro ev ⟨H1,T1⟩ ⟨e0,e1,e7,e8,hk,hr⟩;have:res=false:=by rw[hr,qBk];rfl
 subst this;simp[e7,e8];exact hk
def qeP{c:Nat}{cfr:List AV}(q:Ex->Bool)(l:List Ex)(hl:l.length<=50000)(tok:Abs.Tok)(H:List Blk)(T:List (Option Nat))
 (hc:∀e∈l,∀(H':List Blk) (T':List (Option Nat)),KpL [] H H'->qg prog GG c (.agg (qp e)::cfr) ⟨H',T'⟩ (fun r U'=>r=.bool (q e)/\KpL [] H' U'.H)) :
 qg prog GG 62 [.sl 4 (l.map qp) tok,.fn c [] cfr] ⟨H,T⟩ (fun r U'=>r=.bool (l.any q)/\KpL [] H U'.H):=by
 refine qEI qe func62 rfl (by kernel_rfl) ?_;have hi:=qnQ q l hl tok H T hc;generalize l.any q=res at *;simp;refine qEM hi ?_;rintro r ⟨H1,T1⟩ ⟨⟨n,rfl,h1,h2⟩,hk⟩
 cases res with
 | true=>
  have:=h1 rfl;simp[this];exact hk
 | false=>
  have:¬(0<=n):=by have:=h2 rfl;omega
  simp[this];exact hk
def qi9{s H}(hq:VQ s.p)(hs:SpOk s H){r a}(haf:Fits a)(hfr:∀H',KpL [] H H'->Leq (frz H' 8 r) (.sl 1 (a.map qh) .none)){e}(hwe:Wen e)(hh:hgt e<=1000)(hsz:(pre e).length<=100000){B1 B2}(h1:H[B1]?=some (.cells [.ptr s.S 0]))(h2:H[B2]?=some (.cells [r]))(T) :
 qg prog GG 63 [.agg (qp e),.ptr B1 0,.ptr B2 0] ⟨H,T⟩ (fun v U'=>v=.bool (!kc s.p a e)/\KpL [] H U'.H):=by
 refine qEI qe func63 rfl (by kernel_rfl) ?_;have hS:=hs.c;have hh1:=qnS s.p a e hq haf hwe hh hsz;generalize kc s.p a e=res at *;simp only[spE,qt,qAL,qAK]at hS;simp only[qt,qc e]at hh1;simp only[qc e];have k1:=qd h1;have k2:=qd h2;have k3:=qd hS;simp[k1,k2,k3];refine qEL hh1 rfl ?_ ?_
 . simp only[qAz,qAZ,zn,and_true];refine⟨?_,hfr _ qFh,?_⟩
   . rw[qA (by simp)];exact qEQ _
   rw[qA (by simp)];exact qEQ _
 simp[unA];exact qFh
def qfs{s H}(hq:VQ s.p)(hs:SpOk s H)(hl:s.R.length<=50000){r a}(haf:Fits a)(hbx:qV r=some [r])(hfr:∀H',KpL [] H H'->Leq (frz H' 8 r) (.sl 1 (a.map qh) .none))(hx:∀e∈s.R,Wen e/\hgt e<=1000/\(pre e).length<=100000)(T) :
 qg prog GG 36 [.ptr s.S 0,r] ⟨H,T⟩ (fun v U'=>v=.bool (s.R.all (kc s.p a))/\KpL [] H U'.H):=by
 refine qEI qe func36 rfl (by kernel_rfl) ?_;have hS:=hs.c;have hk0:KpL [] H (H++[.cells [.ptr s.S 0],.cells [r]]):=qFh;have hcon:=qeP (c:=63) (cfr:=[.ptr H.length 0,.ptr (H.length+1) 0]) (fun e=>!kc s.p a e) s.R hl s.rtok (H++[.cells [.ptr s.S 0],.cells [r]]) T (fun e he H' T' hk=>by
  obtain⟨x1,x2,x3⟩:=hx e he;have hkk:=hk0.trans hk;exact qi9 hq (hs.keep hkk (by simp) (by simp) (by simp)) haf (fun H2 hk2=>hfr _ (hkk.trans hk2)) x1 x2 x3 (hk.2 _ _ lk0 (by simp)) (hk.2 _ _ lk1 (by simp)) T')
 have hany:(!s.R.any fun e=>!kc s.p a e)=s.R.all (kc s.p a):=by simp[List.all_eq_not_any_not]
 generalize (s.R.any fun e=>!kc s.p a e)=res at *;rw[<- hany];simp only[spE,qt,qAL,qAK]at hS;have k1:=qd hS;simp[-qV,hbx,k1,show qV (.ptr s.S 0)=some [.ptr s.S 0] from rfl];refine qEM hcon ?_;rintro v ⟨H1,T1⟩ ⟨rfl,hk1⟩;simp[unA];exact hk0.trans hk1
def qgC(ok:List Int->Bool)(vs:List Var)(pre:List Int):Nat:=(jV vs).countP fun x=>ok (pre++x)
def qoq(ok pre):qgC ok [] pre=if ok pre then 1 else 0:=by
 simp[qgC,jV,qEp]
def qsF(ok){v}(h:v.mode=0)(vs pre):qgC ok (v::vs) pre=qgC ok vs (pre++[v.value]):=by
 unfold qgC;rw[Wx h,qDy];congr 1;funext x;simp
def qoo(ok:List Int->Bool)(vs:List Var)(pre:List Int)(k:Nat):Nat:=((List.range k).flatMap fun n:Nat=>(jV vs).map ((n:Int)::·)).countP fun x=>ok (pre++x)
def qsG(ok){v}(h:¬v.mode=0)(vs pre):qgC ok (v::vs) pre=qoo ok vs pre (2^v.width.toNat):=by
 unfold qgC qoo;rw[Wy h];rfl
def qda(ok vs pre k):qoo ok vs pre (k+1)=qoo ok vs pre k+qgC ok vs (pre++[(k:Int)]):=by
 unfold qoo qgC;rw[qBF,List.flatMap_append,List.countP_append];congr 1;simp only[qAO,qC0,qA6,qDy];congr 1;funext x;simp
def qk9(ok vs pre):∀k,qoo ok vs pre k<=k*(jV vs).length
 |0=>by simp[qoo]
 | k+1=>by
  have h1:=qk9 ok vs pre k;have h2:qgC ok vs (pre++[(k:Int)])<=(jV vs).length:=List.countP_le_length;rw[qda,qCL];omega
def qe7{v}(h:¬v.mode=0)(vs):(jV (v::vs)).length=2^v.width.toNat*(jV vs).length:=by
 rw[Zq,Zq];simp only[qAz,qCp,if_neg h,Nat.pow_add]
def qe6{v}(h:v.mode=0)(vs):(jV (v::vs)).length=(jV vs).length:=by
 rw[Zq,Zq];simp only[qAz,qCp,if_pos h,qBQ]
structure EnB where
 A:Nat
 P:Nat
 N:Nat
 V:Nat
 AL:Nat
structure EnOk(B:EnB)(s rv a n H):Prop where
 sp:SpOk s H
 fa:H[B.A]?=some (.cells [rv])
 fp:H[B.P]?=some (.cells [.ptr s.S 0])
 fn:H[B.N]?=some (.cells [.int .i64 (n:Nat)])
 fv:H[B.V]?=some (.cells [.fn 54 [] [.ptr B.A 0,.ptr B.P 0,.ptr B.N 0,.ptr B.V 0]])
 fr:qit B.AL H rv a
 ne:B.N≠B.AL
 o:∀b∈[B.A,B.P,B.V,s.S,s.L,s.LL],b≠B.N/\b≠B.AL
def EnOk.keep{B s rv a n H H'}(h:EnOk B s rv a n H)(hk:KpL [] H H'):EnOk B s rv a n H' :=
 ⟨h.sp.keep hk (by simp) (by simp) (by simp),hk.2 _ _ h.fa (by simp),hk.2 _ _ h.fp (by simp),hk.2 _ _ h.fn (by simp),hk.2 _ _ h.fv (by simp),h.fr.imp id fun⟨h1,h2,h3⟩=>⟨h1,h2,hk.2 _ _ h3 (by simp)⟩,h.ne,h.o⟩
def EnOk.setN{B s rv a n H}(h:EnOk B s rv a n H)(m):EnOk B s rv a m (H.set B.N (.cells [.int .i64 (m:Nat)])):=by
 have hl:=(qAm.1 h.fn).1;have hk:KpL [B.N] H (H.set B.N (.cells [.int .i64 (m:Nat)])):=qFi (by simp);have ho:=h.o;exact⟨h.sp.keep hk (by simpa using(ho s.S (by simp)).1) (by simpa using(ho s.L (by simp)).1) (by simpa using(ho s.LL (by simp)).1),hk.2 _ _ h.fa (by simpa using(ho B.A (by simp)).1),hk.2 _ _ h.fp (by simpa using(ho B.P (by simp)).1),qAt hl,hk.2 _ _ h.fv (by simpa using(ho B.V (by simp)).1),
  h.fr.imp id fun⟨h1,h2,h3⟩=>⟨h1,h2,hk.2 _ _ h3 (by simpa using Ne.symm h.ne)⟩,h.ne,h.o⟩
def EnOk.setA{B s rv a n H}(h:EnOk B s rv a n H)(ha:a≠[])(i x):EnOk B s rv (a.set i x) n (H.set B.AL (.cells (zc (a.set i x)))):=by
 rcases h.fr with⟨h0,-⟩|⟨h1,h2,h3⟩
 . exact absurd h0 ha
 have hl:=(qAm.1 h3).1;have hk:KpL [B.AL] H (H.set B.AL (.cells (zc (a.set i x)))):=qFi (by simp);have ho:=h.o;exact⟨h.sp.keep hk (by simpa using(ho s.S (by simp)).2) (by simpa using(ho s.L (by simp)).2) (by simpa using(ho s.LL (by simp)).2),hk.2 _ _ h.fa (by simpa using(ho B.A (by simp)).2),hk.2 _ _ h.fp (by simpa using(ho B.P (by simp)).2),hk.2 _ _ h.fn (by simpa using h.ne),hk.2 _ _ h.fv (by simpa using(ho B.V (by simp)).2),
  .inr ⟨by simpa using ha,by rw[qBK];exact h2,qAt hl⟩,h.ne,h.o⟩
noncomputable def okE(s:Spc)(a:List Int):Bool:=s.R.all (kc s.p a)
def EnQ(B:EnB)(s:Spc)(rv:AV)(i:Nat)(a:List Int)(n:Nat)(H:List Blk)(r:AV)(U':St):Prop :=
 KpL [B.N,B.AL] H U'.H/\∃a',a'.length=a.length/\a'.take i=a.take i/\EnOk B s rv a' (n+qgC (okE s) (s.p.vars.drop i) (a.take i)) U'.H
def qit.ac{b H v a}(h:qit b H v a):qV v=some [v]:=by
 rcases h with⟨-,sz,tok,rfl⟩|⟨-,rfl,-⟩<;>rfl
def qit.ln{b H v a}(h:qit b H v a)(U):YA (Dof prog) U 28 v=some (.int .i64 (a.length:Nat)):=by
 rcases h with⟨rfl,sz,tok,rfl⟩|⟨h0,rfl,hb⟩<;>simp
def qkS{B s}(hq:VQ s.p)(hv:∀v∈s.p.vars,0<=v.width/\v.width<=20)(hRl:s.R.length<=50000)(hx:∀e∈s.R,Wen e/\hgt e<=1000/\(pre e).length<=100000)(rv) :
 ∀ (k i:Nat) (a) (n),i+k=s.p.vars.length->a.length=s.p.vars.length->n+(jV (s.p.vars.drop i)).length<=2^24->∀(H) (T),EnOk B s rv a n H ->
  qg prog GG 54 [.int .i64 i,.ptr B.A 0,.ptr B.P 0,.ptr B.N 0,.ptr B.V 0] ⟨H,T⟩ (EnQ B s rv i a n H):=by
 intro k
 induction k with
 | zero=>
  intro i a n hik hal hn H T ok;refine qEI qe func54 rfl (by kernel_rfl) ?_;obtain⟨hsp,bA,bP,bN,bV,hr,hne,ho⟩:=id ok;have hln:=hr.ln;have hd:s.p.vars.drop i=[]:=qA3 (by omega);rw[hd]at hn;have hn:n+1<=2^24:=by simpa[jV] using hn
  have hl:=hq.vars;have hfr:∀H',KpL [] H H'->Leq (frz H' 8 rv) (.sl 1 (a.map qh) .none):=fun H' hk=>by
   have:=(qit.frz (b:=B.AL) (H:=H') (v:=rv) (a:=a) (hr.imp id fun⟨h1,h2,h3⟩=>⟨h1,h2,hk.2 _ _ h3 (by simp)⟩) 7).2.1;exact this
  have hso:=qfs hq hsp hRl (r:=rv) (a:=a) (by unfold Fits;omega) hr.ac hfr hx T;have fin:EnQ B s rv i a n H=fun r U'=>KpL [B.N,B.AL] H U'.H/\∃a',a'.length=a.length/\a'.take i=a.take i/\EnOk B s rv a' (n+if okE s a then 1 else 0) U'.H:=by
   funext r U';unfold EnQ;rw[show qgC (okE s) (s.p.vars.drop i) (a.take i)=if okE s a then 1 else 0 by rw[hd,qoq,qAs (by omega)]]
  rw[fin];change qg _ _ _ _ _ (fun v U'=>v=.bool (okE s a)/\_) at hso;generalize okE s a=res at *;simp[-YA,bA,bP,hln,show(i:Int)=a.length by omega];refine qEM hso ?_;rintro r ⟨H1,T1⟩ ⟨rfl,hk1⟩;have ok1:=ok.keep hk1;have bN1:=ok1.fn;have lN1:=(qAm.1 bN1).1;have hw:=wr (n:=(n:Int)+1) (by omega) (by omega)
  cases res with
  | false=>
   simp;exact⟨hk1.sub (by simp),a,rfl,rfl,ok1⟩
  | true=>
   simp[bN1,hw];exact⟨(hk1.sub (by simp)).trans (qFi (by simp)),a,rfl,rfl,by have:=ok1.setN (n+1);simpa using this⟩
 | succ k ih=>
  intro i a n hik hal hn H T ok;refine qEI qe func54 rfl (by kernel_rfl) ?_;obtain⟨hsp,bA,bP,bN,bV,hr,hne,ho⟩:=id ok;have hia:i<a.length:=by omega
  have ha0:a≠[]:=fun e=>by rw[e]at hia;simp at hia
  obtain⟨v,hvi⟩:∃v,s.p.vars[i]?=some v:=⟨_,qAo (by omega)⟩;have hvw:=hv v (qAn hvi);have hdr:s.p.vars.drop i=v::s.p.vars.drop (i+1):=by
   obtain⟨h1,h2⟩:=qAm.1 hvi;rw[qAJ h1,h2]
  have hl:=hq.vars;rcases hr with⟨h0,-⟩|⟨-,hrv,bAL⟩
  . exact absurd h0 ha0
  subst hrv;have hS:=hsp.c;simp only[spE,qt,qAL,qAK]at hS;have kA:=qd bA;have kP:=qd bP;have kL:=qd bAL;have hni:¬(i:Int)=a.length:=by omega
  have hia':(i:Int)<a.length:=by omega
  have hil':(i:Int)<s.p.vars.length:=by omega
  have hla:i+1<=a.length:=hia;have hset:∀(a:List Int) x,(zc a).set i (.int .i64 x)=zc (a.set i x):=fun a x=>by simp[zc,qDg]
  have hwi:=wr (n:=(i:Int)+1) (by omega) (by omega);have htk:∀(a':List Int) x,a'.length=a.length->a'.take i=a.take i->(a'.set i x).take (i+1)=a.take i++[x]:=fun a' x h1 h2=>by
   rw[qAT,qAt (by omega),List.take_set_of_le (qAy _),h2];rfl
  by_cases hm:v.mode=0
  . have hcs:=qsF (okE s) hm (s.p.vars.drop (i+1)) (a.take i);rw[hdr,qe6 hm]at hn;have ok1:=(ok.keep (H':=H++[.cells (qJ v)]) qFh).setA ha0 i v.value;have hih:=ih (i+1) (a.set i v.value) n (by omega) (by simpa using hal) hn _ T ok1;have bV1:=ok1.fv;simp only[qJ,hm]at hih bV1;rw[show(((i+1:Nat)):Int)=(i:Int)+1 by omega]at hih;simp[kA,kL,bA,bP,hS,hvi,hia',hni,hm,hset,hla,qS,bV1,hwi];refine qEM hih ?_;rintro r ⟨H1,T1⟩ ⟨hk1,a',l1,l2,ok2⟩;simp;refine⟨qFg (qFg qFh (qFi (by simp))) hk1,a',by simpa using l1,?_,?_⟩
    . have:=congrArg (List.take i) l2;rw[htk a v.value rfl rfl]at this;simpa[qEq,qBL (by omega:i<=i+1),qBL (by omega:i<=a.length)] using this
    rw[hdr,hcs];rw[htk a v.value rfl rfl]at ok2;exact ok2
  have hcs:=qsG (okE s) hm (s.p.vars.drop (i+1)) (a.take i);have hcl:=fun k=>qk9 (okE s) (s.p.vars.drop (i+1)) (a.take i) k
  have hsu:=fun k=>qda (okE s) (s.p.vars.drop (i+1)) (a.take i) k
  rw[hdr,qe7 hm]at hn;have hs1:=wB hvw.1 (by omega);have hNb:2^v.width.toNat<=2^20:=qAV (by omega) (by omega);have fin:EnQ B s (.ms B.AL 0 a.length 1) i a n H=fun r U'=>KpL [B.N,B.AL] H U'.H/\∃a',a'.length=a.length/\a'.take i=a.take i/\EnOk B s (.ms B.AL 0 a.length 1) a' (n+qoo (okE s) (s.p.vars.drop (i+1)) (a.take i) (2^v.width.toNat)) U'.H:=by
   funext r U';unfold EnQ;rw[hdr,hcs]
  rw[fin];generalize 2^v.width.toNat=W at *;simp[kA,kL,bA,bP,hS,hvi,hia',hni,hm,show ¬v.width<0 by omega,hs1,IntKind.bits];refine kf W (fun k ev U=>ev 0=.int .i64 i/\ev 1=.ptr B.A 0/\ev 2=.ptr B.P 0/\ev 3=.ptr B.N 0/\ev 4=.ptr B.V 0/\ev 39=.int .i64 W/\ev 40=.int .i64 k/\KpL [B.N,B.AL] H U.H/\∃a',a'.length=a.length/\a'.take i=a.take i/\EnOk B s (.ms B.AL 0 a.length 1) a' (n+qoo (okE s) (s.p.vars.drop (i+1)) (a.take i) k) U.H) ?_ ?_ ?_
  . exact⟨by simp,by simp,by simp,by simp,by simp,by simp,by simp,qFh,a,rfl,rfl,ok.keep qFh⟩
  . rintro k ev ⟨H1,T1⟩ R hR hkW ⟨e0,e1,e2,e3,e4,e39,e40,hk1,a',l1,l2,ok1⟩;have hwk:=wr (n:=(k:Int)+1) (by omega) (by omega);have hmul:(k+1)*(jV (s.p.vars.drop (i+1))).length<=W*(jV (s.p.vars.drop (i+1))).length:=qBl _ hkW;rw[qCL]at hmul;have hck:=hcl k;have ha0':a'≠[]:=fun e=>by rw[e]at l1;simp at l1;omega
    obtain⟨hsp1,bA1,bP1,bN1,bV1,hr1,-,-⟩:=id ok1;rcases hr1 with⟨h0,-⟩|⟨-,hrv1,bAL1⟩
    . exact absurd h0 ha0'
    have ok2:=ok1.setA ha0' i (k:Int);have bV2:=ok2.fv;have hih:=ih (i+1) (a'.set i (k:Int)) _ (by omega) (by simp;omega) (qBf (Nat.add_le_add_right (Nat.add_le_add_left hck n) _) (by omega)) _ T1 ok2;rw[show(((i+1:Nat)):Int)=(i:Int)+1 by omega]at hih;simp[e0,e1,e4,e39,e40,show(k:Int)<W by omega,bA1,bAL1,hia',hset,show i+1<=a'.length by omega,qS,bV2,hwi];refine qEM hih ?_;rintro r ⟨H2,T2⟩ ⟨hk2,a2,m1,m2,ok3⟩;rw[htk a' k l1 l2]at m2 ok3;simp[e40,hwk];refine hR _ _ ⟨by simp[e0],by simp[e1],by simp[e2],by simp[e3],by simp[e4],by simp[e39],by simp,hk1.trans (qFg (qFi (by simp)) hk2),a2,by rw[m1,qBK,l1],?_,?_⟩
    . have:=congrArg (List.take i) m2;simpa[qEq,qBL (by omega:i<=i+1),qBL (by omega:i<=a.length)] using this
    rw[hsu,<- qCm];exact ok3
  rintro ev ⟨H1,T1⟩ ⟨e0,e1,e2,e3,e4,e39,e40,hk1,a',l1,l2,ok1⟩;simp[e39,e40];exact⟨hk1,a',l1,l2,ok1⟩
noncomputable def qwh(s:Spc):Nat:=(jV s.p.vars).countP (okE s)
def SpOk.lt{s H}(h:SpOk s H):s.S<H.length/\s.L<H.length/\s.LL<H.length:=by
 refine⟨(qAm.1 h.c).1,?_,h.b⟩;obtain⟨c,hc,_⟩:=h.w;exact(qAm.1 hc).1
def KpL.fresh{H H1 H2 bs}(h:KpL [] H H1)(h2:KpL bs H1 H2)(hB:∀b∈bs,H.length<=b):KpL [] H H2:=⟨qBf h.1 h2.1,fun k x hk _=>h2.2 k x (h.2 k x hk (by simp)) (fun hb=>by have:=(qAm.1 hk).1;have:=hB k hb;omega)⟩
def qvd{s}(hq:VQ s.p)(hv:∀v∈s.p.vars,0<=v.width/\v.width<=20)(hRl:s.R.length<=50000)(hx:∀e∈s.R,Wen e/\hgt e<=1000/\(pre e).length<=100000)(hn:(jV s.p.vars).length<=2^24){H}(hs:SpOk s H)(T) :
 qg prog GG 27 [.ptr s.S 0] ⟨H,T⟩ (fun r U'=>r=.int .i64 (qwh s:Nat)/\KpL [] H U'.H):=by
 refine qEI qe func27 rfl (by kernel_rfl) ?_;have hl:=hq.vars;obtain⟨g1,g2,g3⟩:=hs.lt;have hS:=hs.c;simp only[spE,qt,qAL,qAK]at hS;have kS:=qd hS;have hcn:qgC (okE s) s.p.vars []=qwh s:=by unfold qgC qwh;simp
 by_cases h0:s.p.vars=[]
 . have lk:∀(a b c d:Blk),(H++[a,b,c,d])[H.length]?=some a/\(H++[a,b,c,d])[H.length+1]?=some b/\(H++[a,b,c,d])[H.length+2]?=some c/\(H++[a,b,c,d])[H.length+3]?=some d:=by
    intros
    refine⟨?_,?_,?_,?_⟩<;>simp[]
   obtain⟨a0,a1,a2,a3⟩:=lk (.cells [.ptr s.S 0]) (.cells [.sl 1 [] (.chain T.length 0)]) (.cells [.int .i64 0]) (.cells [.fn 54 [] [.ptr (H.length+1) 0,.ptr H.length 0,.ptr (H.length+2) 0,.ptr (H.length+3) 0]]);have ok:EnOk ⟨H.length+1,H.length,H.length+2,H.length+3,H.length+100⟩ s (.sl 1 [] (.chain T.length 0)) [] 0 (H++[.cells [.ptr s.S 0],.cells [.sl 1 [] (.chain T.length 0)],.cells [.int .i64 0],.cells [.fn 54 [] [.ptr (H.length+1) 0,.ptr H.length 0,.ptr (H.length+2) 0,.ptr (H.length+3) 0]]]) :=
    ⟨hs.keep qFh (bs:=[]) (by simp) (by simp) (by simp),a1,a0,a2,a3,.inl ⟨rfl,1,_,rfl⟩,by dsimp only;omega,by simp;omega⟩
   have he:=qkS hq hv hRl hx _ s.p.vars.length 0 [] 0 (by omega) (by rw[h0];rfl) (by simpa using hn) _ (T++[some 0]) ok;simp[kS,h0,qI];refine qEM he ?_;rintro r ⟨H1,T1⟩ ⟨hk1,a',l1,l2,ok2⟩;have bN:=ok2.fn;simp only[qBz,List.take_nil,hcn,qBQ]at bN;simp[bN];exact KpL.fresh qFh hk1 (by simp)
 have hpos:=qAI.2 h0;have hne:¬(s.p.vars.length:Int)=0:=by omega
 have lk:∀(a b c d e:Blk),(H++[a,b,c,d,e])[H.length]?=some a/\(H++[a,b,c,d,e])[H.length+1]?=some b/\(H++[a,b,c,d,e])[H.length+2]?=some c/\(H++[a,b,c,d,e])[H.length+3]?=some d/\(H++[a,b,c,d,e])[H.length+4]?=some e:=by
  intros
  refine⟨?_,?_,?_,?_,?_⟩<;>simp[]
 obtain⟨a0,a1,a2,a3,a4⟩:=lk (.cells [.ptr s.S 0]) (.cells (List.replicate s.p.vars.length (.int .i64 0))) (.cells [.ms (H.length+1) 0 s.p.vars.length 1]) (.cells [.int .i64 0]) (.cells [.fn 54 [] [.ptr (H.length+2) 0,.ptr H.length 0,.ptr (H.length+3) 0,.ptr (H.length+4) 0]]);have ok:EnOk ⟨H.length+2,H.length,H.length+3,H.length+4,H.length+1⟩ s (.ms (H.length+1) 0 s.p.vars.length 1) (List.replicate s.p.vars.length 0) 0 (H++[.cells [.ptr s.S 0],.cells (List.replicate s.p.vars.length (.int .i64 0)),.cells [.ms (H.length+1) 0 s.p.vars.length 1],.cells [.int .i64 0],.cells [.fn 54 [] [.ptr (H.length+2) 0,.ptr H.length 0,.ptr (H.length+3) 0,.ptr (H.length+4) 0]]]) :=
  ⟨hs.keep qFh (bs:=[]) (by simp) (by simp) (by simp),a2,a0,a3,a4,.inr ⟨by simpa using h0,by simp,by rw[show ∀n,zc (List.replicate n 0)=List.replicate n (.int .i64 0) from fun n=>by simp[zc]];exact a1⟩,by dsimp only;omega,by simp;omega⟩
 have he:=qkS hq hv hRl hx _ s.p.vars.length 0 (List.replicate s.p.vars.length 0) 0 (by omega) (by simp) (by simpa using hn) _ T ok;simp[kS,h0,qI,show(s.p.vars.length:Int)<=549755813888 by omega];refine qEM he ?_;rintro r ⟨H1,T1⟩ ⟨hk1,a',l1,l2,ok2⟩;have bN:=ok2.fn;simp only[qBz,qDG,hcn,qBQ]at bN;simp[bN];exact KpL.fresh qFh hk1 (by simp)
end Go.Proofs.YtafbccendejkeaaGreatDoor
namespace Go.Abs
def ql1(b:Nat->Bool)(L:Nat)(v:Bool):Nat->Bool:=fun l=>if l=L then v else b l
def YH{d}(h:DagOk d){i L}(hi:i<d.length)(hL:L<lvD d i)(b v):evD d (ql1 b L v) i=evD d b i :=
 Wf h hi fun l hl=>if_neg (by omega)
def VN{d}(h:DagOk d){i n}(h2:2<=i)(hn:d[i]?=some n)(b):evD d (ql1 b n.1 false) i=evD d b n.2.1:=by
 obtain⟨g1,g2,g3,g4,g5,g6⟩:=h.node i n h2 hn;have hi:=(List.getElem?_eq_some_iff.1 hn).1;rw[QJ h _ h2 hn];have:ql1 b n.1 false n.1=false:=by simp[ql1]
 rw[this];exact YH h (by omega) g5 b false
def VO{d}(h:DagOk d){i n}(h2:2<=i)(hn:d[i]?=some n)(b):evD d (ql1 b n.1 true) i=evD d b n.2.2:=by
 obtain⟨g1,g2,g3,g4,g5,g6⟩:=h.node i n h2 hn;have hi:=(List.getElem?_eq_some_iff.1 hn).1;rw[QJ h _ h2 hn];have:ql1 b n.1 true n.1=true:=by simp[ql1]
 rw[this];exact YH h (by omega) g6 b true
def qk3{d}(h:DagOk d):∀(m i j),i<=m->j<=m->i<d.length->j<d.length->(∀b,evD d b i=evD d b j)->i=j:=by
 intro m
 induction m with
 |zero=>intro i j hm hm' _ _ _;omega
 | succ m ih=>
  intro i j hm hm' hi hj he
  -- a node above another one
  have above:∀(i j:Nat),i<=m+1->j<=m+1->i<d.length->j<d.length->(∀b,evD d b i=evD d b j)->lvD d i<lvD d j->False:=by
   intro i j hm hm' hi hj he hl;have h2:2<=i:=by
    apply Classical.byContradiction;intro hc;have:i=0\/i=1:=by omega
    have h1:=qf5 h j;rcases this with rfl|rfl
    . rw[qhS h]at hl;omega
    rw[qhR h]at hl;omega
   obtain⟨n,hn⟩:∃n,d[i]?=some n:=⟨_,List.getElem?_eq_getElem hi⟩;obtain⟨g1,g2,g3,g4,g5,g6⟩:=h.node i n h2 hn;rw[zQ hn]at hl;refine g4 (ih _ _ (by omega) (by omega) (by omega) (by omega) fun b=>?_);rw[<- VN h h2 hn b,<- VO h h2 hn b,he,he,YH h hj hl,YH h hj hl]
  by_cases h1:lvD d i<lvD d j
  . exact(above i j hm hm' hi hj he h1).elim
  by_cases h2:lvD d j<lvD d i
  . exact(above j i hm' hm hj hi (fun b=>(he b).symm) h2).elim
  have hll:lvD d i=lvD d j:=by omega
  by_cases hi2:2<=i
  . have hl20:=qka h hi2 hi;have hj2:2<=j:=by
     apply Classical.byContradiction;intro hc;have:j=0\/j=1:=by omega
     rcases this with rfl|rfl
     . rw[qhS h]at hll;omega
     rw[qhR h]at hll;omega
    obtain⟨n,hn⟩:∃n,d[i]?=some n:=⟨_,List.getElem?_eq_getElem hi⟩;obtain⟨k,hk⟩:∃k,d[j]?=some k:=⟨_,List.getElem?_eq_getElem hj⟩;obtain⟨g1,g2,g3,g4,g5,g6⟩:=h.node i n hi2 hn;obtain⟨k1,k2,k3,k4,k5,k6⟩:=h.node j k hj2 hk;rw[zQ hn,zQ hk]at hll;have e1:n.2.1=k.2.1:=ih _ _ (by omega) (by omega) (by omega) (by omega) fun b=>by
     rw[<- VN h hi2 hn b,<- VN h hj2 hk b,he,hll]
    have e2:n.2.2=k.2.2:=ih _ _ (by omega) (by omega) (by omega) (by omega) fun b=>by
     rw[<- VO h hi2 hn b,<- VO h hj2 hk b,he,hll]
    have e:=Prod.ext hll (Prod.ext e1 e2);subst e;exact(List.getElem?_inj hi h.nodup).1 (hn.trans hk.symm)
  by_cases hj2:2<=j
  . have hl20:=qka h hj2 hj;have:i=0\/i=1:=by omega
    rcases this with rfl|rfl
    . rw[qhS h]at hll;omega
    rw[qhR h]at hll;omega
  have e:=he fun _=>false
  rw[Jz h _ (by omega),Jz h _ (by omega)]at e;have a:i=0\/i=1:=by omega
  have b:j=0\/j=1:=by omega
  rcases a with rfl|rfl<;>rcases b with rfl|rfl<;>simp_all
def WO(d:List Nd)(e0 e1:Int)(comb:Nd->Int->Int->Int):Nat->Nat->Int
 |0,k=>if k=0 then e0 else e1
 | m+1,k=>if k=0 then e0 else if k=1 then e1 else match d[k]? with
  |some n=>comb n (WO d e0 e1 comb m n.2.1) (WO d e0 e1 comb m n.2.2)
  |none=>0
def qaP(d:List Nd)(e0 e1:Int)(comb:Nd->Int->Int->Int)(k:Nat):Int:=WO d e0 e1 comb (k+1) k
def YC{d}(h:DagOk d){e0 e1 comb}:∀(m m' k),k<m->k<m'->WO d e0 e1 comb m k=WO d e0 e1 comb m' k
 |0,_,k,hk,_=>by omega
 |m+1,0,k,_,hk=>by omega
 | m+1,m'+1,k,h1,h2=>by
  by_cases hk2:2<=k
  . unfold WO;rw[if_neg (by omega),if_neg (by omega),if_neg (by omega),if_neg (by omega)]
    cases hn:d[k]? with
    |none=>rfl
    | some n=>
     obtain⟨g1,g2,g3,-⟩:=h.node k n hk2 hn;dsimp only;rw[YC h m m' _ (by omega) (by omega),YC h m m' n.2.2 (by omega) (by omega)]
  have:k=0\/k=1:=by omega
  rcases this with rfl|rfl<;>simp[WO]
def qkE{d e0 e1 comb}:qaP d e0 e1 comb 0=e0:=by simp[qaP,WO]
def qkD{d e0 e1 comb}:qaP d e0 e1 comb 1=e1:=by simp[qaP,WO]
def wS{d}(h:DagOk d){e0 e1 comb k n}(h2:2<=k)(hn:d[k]?=some n):qaP d e0 e1 comb k=comb n (qaP d e0 e1 comb n.2.1) (qaP d e0 e1 comb n.2.2):=by
 obtain⟨g1,g2,g3,-⟩:=h.node k n h2 hn;unfold qaP;rw[WO,if_neg (by omega),if_neg (by omega),hn];dsimp only;rw[YC h k (n.2.1+1) _ (by omega) (by omega),YC h k (n.2.2+1) n.2.2 (by omega) (by omega)]
def Z5(n:Nd)(lo hi:Int):Int:=max (max (n.1:Int) lo) hi
def yD(d:List Nd)(k:Nat):Int:=qaP d (-1) (-1) Z5 k
def qsA{d}(h:DagOk d)(N):∀(m k),k<m->k<d.length->(∀b c:Nat->Bool,(∀l,l<N->b l=c l)->evD d b k=evD d c k)->yD d k<N:=by
 intro m
 induction m with
 |zero=>intro k hk;omega
 | succ m ih=>
  intro k hkm hk hb;by_cases h2:2<=k
  . obtain⟨n,hn⟩:∃n,d[k]?=some n:=⟨_,List.getElem?_eq_getElem hk⟩;obtain⟨g1,g2,g3,g4,g5,g6⟩:=h.node k n h2 hn;have hlv:n.1<N:=by
     apply Classical.byContradiction;intro hc;refine g4 (qk3 h (n.2.1+n.2.2) _ _ (by omega) (by omega) (by omega) (by omega) fun b=>?_);rw[<- VN h h2 hn b,<- VO h h2 hn b];refine hb _ _ fun l hl=>?_
     unfold ql1;rw[if_neg (by omega),if_neg (by omega)]
    have l1:=ih n.2.1 (by omega) (by omega) fun b c hbc=>by
     rw[<- VN h h2 hn b,<- VN h h2 hn c];refine hb _ _ fun l hl=>?_
     unfold ql1;split
     . rfl
     exact hbc l hl
    have l2:=ih n.2.2 (by omega) (by omega) fun b c hbc=>by
     rw[<- VO h h2 hn b,<- VO h h2 hn c];refine hb _ _ fun l hl=>?_
     unfold ql1;split
     . rfl
     exact hbc l hl
    unfold yD at *;rw[wS h h2 hn];unfold Z5 at *;omega
  unfold yD;have:k=0\/k=1:=by omega
  rcases this with rfl|rfl
  . rw[qkE];omega
  rw[qkD];omega
def VT(d:List Nd):Nat->Nat->Nat->Nat
 |_,0,k=>if k=1 then 1 else 0
 |l,m+1,k=>VT d (l+1) m (yd d k l false)+VT d (l+1) m (yd d k l true)
def VD{d k l}(h:l<lvD d k)(v):yd d k l v=k:=by
 unfold yd;unfold lvD at h
 cases hn:d[k]? with
 |none=>rfl
 | some n=>
  rw[hn]at h;dsimp only at h⊢;rw[if_neg (by omega)]
def qdc{d k}:∀(j l m),l+j<=lvD d k->j<=m->VT d l m k=VT d (l+j) (m-j) k*2^j
 |0,l,m,_,_=>by simp
 |j+1,l,0,_,h=>by omega
 | j+1,l,m+1,h,hj=>by
  rw[VT,VD (by omega),VD (by omega),qdc j (l+1) m (by omega) (by omega),show l+1+j=l+(j+1) by omega,show m+1-(j+1)=m-j by omega,Nat.pow_succ];generalize VT d (l+(j+1)) (m-j) k=x;rw[<- Nat.mul_assoc,Nat.mul_two]
def qa5(d):∀(m l k),VT d l m k<=2^m
 |0,l,k=>by unfold VT;split<;>simp
 | m+1,l,k=>by
  have h1:=qa5 d m (l+1) (yd d k l false);have h2:=qa5 d m (l+1) (yd d k l true);rw[VT,Nat.pow_succ];omega
def qdq:Nat->List (List Bool)
 |0=>[[]]
 |n+1=>(qdq n).map (false::·)++(qdq n).map (true::·)
def YO:∀{n:Nat}{l:List Bool},l∈qdq n↔l.length=n
 |0,l=>by simp[qdq]
 |n+1,[]=>by simp[qdq]
 | n+1,b::l=>by
  cases b<;>simp[qdq,YO]
def VY:∀n,(qdq n).Nodup
 |0=>by simp[qdq]
 | n+1=>by
  have h:=VY n;rw[qdq,List.nodup_append];refine⟨?_,?_,?_⟩
  . exact List.Pairwise.map _ (fun a b hab e=>hab (List.cons.inj e).2) h
  . exact List.Pairwise.map _ (fun a b hab e=>hab (List.cons.inj e).2) h
  intro a ha b hb e;obtain⟨x,-,rfl⟩:=List.mem_map.1 ha;obtain⟨y,-,rfl⟩:=List.mem_map.1 hb;cases e
def qp1(l:List Bool):Nat->Bool:=fun i=>l.getD i false
def qk2{d:List Nd}(h:DagOk d){k N l:Nat}(hk:k<d.length)(hd:yD d k<N)(v:Bool):yD d (yd d k l v)<N:=by
 unfold yd;have hn:=List.getElem?_eq_getElem hk;rw[hn];dsimp only;split
 . rename_i hl;by_cases h2:2<=k
   . unfold yD at *;rw[wS h h2 hn]at hd;unfold Z5 at *;split<;>omega
   have:k=0\/k=1:=by omega
   rcases this with rfl|rfl
   . have e:=h.n0;rw[hn]at e;rw[Option.some.inj e];simp only[ite_self];exact hd
   have e:=h.n1;rw[hn]at e;rw[Option.some.inj e];simp only[ite_self];exact hd
 exact hd
def qk1{d:List Nd}(h:DagOk d){k N:Nat}(h2:2<=k)(hk:k<d.length)(hd:yD d k<N):lvD d k<N:=by
 have hn:=List.getElem?_eq_getElem hk;unfold yD at hd;rw[wS h h2 hn]at hd;rw[zQ hn];unfold Z5 at hd;omega
def qdb{d}(h:DagOk d):∀(m l k) (pre),pre.length=l->l+m<=20->k<d.length->l<=lvD d k->yD d k<(l+m:Nat)->VT d l m k=(qdq m).countP fun s=>evD d (qp1 (pre++s)) k
 | 0,l,k,pre,hp,hlm,hk,hl,hd=>by
  have hk2:¬2<=k:=fun h2=>by have:=qk1 h h2 hk hd;omega
  unfold VT;simp only[qdq,List.countP_singleton,List.append_nil];rw[Jz h _ (by omega)];by_cases h1:k=1
  . simp[h1]
  simp[h1]
 | m+1,l,k,pre,hp,hlm,hk,hl,hd=>by
  have half:∀v:Bool,VT d (l+1) m (yd d k l v)=((qdq m).map (v::·)).countP fun s=>evD d (qp1 (pre++s)) k:=fun v=>by
   obtain⟨a1,a2,a3⟩:=ke h hk (by omega:l<20) hl v;rw[qdb h m (l+1) (yd d k l v) (pre++[v]) (by simp[hp]) (by omega) a1 (by omega) (by have:=qk2 h hk hd (l:=l) v;omega),List.countP_map];congr 1;funext s;simp only[Function.comp_apply];rw[List.append_assoc,List.singleton_append];exact(a3 _ (by unfold qp1;rw[List.getD_eq_getElem?_getD,List.getElem?_append_right (by omega),hp,Nat.sub_self];rfl)).symm
  rw[VT,half,half,qdq,List.countP_append]
def qop{d}(h:DagOk d){n k:Nat}(hn:n<=20)(hk:k<d.length)(hd:yD d k<n):VT d 0 n k=(qdq n).countP fun s=>evD d (qp1 s) k:=by
 have:=qdb h n 0 k [] rfl (by omega) hk (Nat.zero_le _) (by omega);simpa using this
def wZ(d:List Nd)(n k:Nat):Nat:=min (lvD d k) n
def YK(d:List Nd)(n k:Nat):Nat:=VT d (wZ d n k) (n-wZ d n k) k
def qvk{d}(h:DagOk d){n}(hn:n<=20):YK d n 0=0:=by
 have:wZ d n 0=n:=by unfold wZ;rw[qhS h];omega
 unfold YK;rw[this,Nat.sub_self];rfl
def qvj{d}(h:DagOk d){n}(hn:n<=20):YK d n 1=1:=by
 have:wZ d n 1=n:=by unfold wZ;rw[qhR h];omega
 unfold YK;rw[this,Nat.sub_self];rfl
def Wm{d n k l}(hl:l<=wZ d n k):VT d l (n-l) k=YK d n k*2^(wZ d n k-l):=by
 unfold YK;have h1:wZ d n k<=lvD d k:=Nat.min_le_left _ _;have h2:wZ d n k<=n:=Nat.min_le_right _ _;rw[qdc (wZ d n k-l) l (n-l) (by omega) (by omega),show l+(wZ d n k-l)=wZ d n k by omega,show n-l-(wZ d n k-l)=n-wZ d n k by omega]
def qc9{d}(h:DagOk d){n k:Nat}{x}(hn:n<=20)(h2:2<=k)(hx:d[k]?=some x)(hd:yD d k<n) :
 x.1<n/\x.1+1<=wZ d n x.2.1/\x.1+1<=wZ d n x.2.2/\yD d x.2.1<n/\yD d x.2.2<n/\YK d n k=YK d n x.2.1*2^(wZ d n x.2.1-(x.1+1))+YK d n x.2.2*2^(wZ d n x.2.2-(x.1+1)):=by
 have hk:=(List.getElem?_eq_some_iff.1 hx).1;obtain⟨g1,g2,g3,g4,g5,g6⟩:=h.node k x h2 hx;have hl:=qk1 h h2 hk hd;rw[zQ hx]at hl;have e1:x.1+1<=wZ d n x.2.1:=by unfold wZ;omega
 have e2:x.1+1<=wZ d n x.2.2:=by unfold wZ;omega
 have hd':=hd;unfold yD at hd';rw[wS h h2 hx]at hd';unfold Z5 at hd';refine⟨hl,e1,e2,by unfold yD Z5;omega,by unfold yD Z5;omega,?_⟩;rw[<- Wm e1,<- Wm e2];unfold YK;rw[show wZ d n k=x.1 by unfold wZ;rw[zQ hx];omega,show n-x.1=(n-(x.1+1))+1 by omega,VT];rw[show yd d k x.1 false=x.2.1 by unfold yd;rw[hx];simp,show yd d k x.1 true=x.2.2 by unfold yd;rw[hx];simp]
def qk8(d n k):YK d n k<=2^(n-wZ d n k):=qa5 d _ _ _
end Go.Abs
namespace Go.Proofs.YtafbccendejkeaaGreatDoor
open Go Go.Abs Proofs.Tryz Go.RowKit
def VZ:∀vs:List Var,(jV vs).Nodup
 |[]=>by simp[jV]
 | v::vs=>by
  have ih:=VZ vs;have hc:∀x:Int,((jV vs).map (x::·)).Nodup:=fun x=>qDp.2 (ih.imp fun h e=>h (List.cons.inj e).2)
  by_cases h:v.mode=0
  . rw[Wx h];exact hc _
  rw[Wy h];refine List.pairwise_flatMap.2 ⟨fun n _=>hc _,(List.nodup_range (n:=zP v)).imp fun {a b} hab x hx y hy e=>?_⟩;obtain⟨x',-,rfl⟩:=qAN.1 hx;obtain⟨y',-,rfl⟩:=qAN.1 hy;have:=(List.cons.inj e).1;exact hab (by omega)
def qvJ{p}:∀(l) (x),x<LW p l->∃k i,l[k]?=some i/\LW p (l.take k)<=x/\x<LW p (l.take k)+jz p i
 |[],x,h=>by simp[LW]at h
 | i::l,x,h=>by
  by_cases hx:x<jz p i
  . exact⟨0,i,rfl,by simp[LW],by simpa[LW] using hx⟩
  have h2:LW p (i::l)=jz p i+LW p l:=by simp[LW]
  obtain⟨k,j,h3,h4,h5⟩:=qvJ (p:=p) l (x-jz p i) (by omega);refine⟨k+1,j,by simpa using h3,?_,?_⟩
  . rw[qB9,show LW p (i::l.take k)=jz p i+LW p (l.take k) by simp[LW]];omega
  rw[qB9,show LW p (i::l.take k)=jz p i+LW p (l.take k) by simp[LW]];omega
def qsZ{p l k i}(h:l[k]?=some i):LW p (l.take k)+jz p i<=LW p l:=by
 have e:l=l.take k++i::l.drop (k+1):=by
  obtain⟨h1,h2⟩:=qAm.1 h;have:=qA9 k l;rw[qAJ h1,h2]at this;exact this.symm
 have:=congrArg (LW p) e;rw[qgP,show LW p (i::l.drop (k+1))=jz p i+LW p (l.drop (k+1)) by simp[LW]]at this;omega
def VX{p}(hv:qk p=0){b c}(h:∀l,l<LW p (NG p).flatten->b l=c l):QM p.vars (qN p) b=QM p.vars (qN p) c:=by
 have hl:=fun b=>(ko.1 (qbd hv b)).len
 apply qBn;intro i;by_cases hi:i<p.vars.length
 . obtain⟨v,hvi⟩:∃v,p.vars[i]?=some v:=⟨_,qAo hi⟩;by_cases hm:v.mode=0
   . rw[qbc b hvi hm,qbc c hvi hm]
   rw[vA hv b hvi hm,vA hv c hvi hm];obtain⟨k,hk⟩:=qA5 (qao hv hvi hm);have e:Ys p b i=Ys p c i:=W2 fun j hj=>h _ (by
    rw[qcx hv hk];have:=qsZ (p:=p) hk;omega)
   rw[e]
 rw[qAU (by rw[hl];omega),qAU (by rw[hl];omega)]
def qoJ{p}(hv:qk p=0){b c}(h:QM p.vars (qN p) b=QM p.vars (qN p) c):∀l,l<LW p (NG p).flatten->b l=c l:=by
 intro l hl;obtain⟨k,i,hk,h1,h2⟩:=qvJ _ l hl;obtain⟨v,hvi,hm⟩:=yA hv (qAn hk);have e1:=vA hv b hvi hm;rw[h,vA hv c hvi hm]at e1;have e2:Ys p b i=Ys p c i:=by
  have:=Option.some.inj e1;omega
 have hl:=qcx hv hk;have f1:=Y0 e2 (j:=l-Jp (qN p) i) (by omega);have f2:=Y0 (rfl:Ys p c i=Ys p c i) (j:=l-Jp (qN p) i) (by omega);rw[show Jp (qN p) i+(l-Jp (qN p) i)=l by omega]at f1 f2;rw[f1,f2]
def qoB(n b){l}(hl:l<n):qp1 ((List.range n).map b) l=b l:=by
 unfold qp1;rw[qAx,qAR,qC5 hl];rfl
def qbb{p}(hv:qk p=0):((qdq (LW p (NG p).flatten)).map fun s=>QM p.vars (qN p) (qp1 s)).Perm (jV p.vars):=by
 refine(List.perm_ext_iff_of_nodup ?_ (VZ _)).2 fun a=>?_
 . refine qDp.2 (List.Pairwise.imp_of_mem (fun {s t} hs ht hst e=>hst ?_) (VY _));have ls:=YO.1 hs;have lt:=YO.1 ht;apply qBn;intro i;by_cases hi:i<LW p (NG p).flatten
   . have:=qoJ hv e i hi;unfold qp1 at this;rw[qAx,qAx]at this;rw[qAo (by omega),qAo (by omega)]at this⊢;exact congrArg some (by simpa using this)
   rw[qAU (by omega),qAU (by omega)]
 constructor
 . intro h;obtain⟨s,-,rfl⟩:=qAN.1 h;exact qbd hv _
 intro h;obtain⟨b,hb,-⟩:=qdk hv h;refine qAN.2 ⟨(List.range (LW p (NG p).flatten)).map b,YO.2 (by simp),?_⟩;rw[<- hb];exact VX hv fun l hl=>qoB _ b hl
noncomputable def qqQ(p:Problem)(R:List Ex):Nat:=(jV p.vars).countP (kN p.vars R)
def qon{p}(hv:qk p=0){R d}(hd:DagOk d){root}(hr:root<d.length)(hroot:∀b,evD d b root=kN p.vars R (QM p.vars (qN p) b)) :
 yD d root<LW p (NG p).flatten/\VT d 0 (LW p (NG p).flatten) root=qqQ p R:=by
 have h1:yD d root<LW p (NG p).flatten:=qsA hd _ (root+1) root (by omega) hr fun b c hbc=>by rw[hroot,hroot,VX hv hbc]
 refine⟨h1,?_⟩;rw[qop hd (qlX hv) hr h1];unfold qqQ;rw[<- (qbb hv).countP_eq,qDy];congr 1;funext s;simp[hroot]
def qqV{s}(hv:qk s.p=0){a}(ha:a∈jV s.p.vars):okE s a=kN s.p.vars s.R a:=by
 unfold okE kN;have has:=qe5 hv ha;rw[qBd,qAv,qAv];refine⟨fun h e he=>?_,fun h e he=>qgy hv (by simpa using h e he) has⟩;have:=h e he;unfold kc at this;simp at this;simpa using this.2
def qj3{s}(hv:qk s.p=0):qwh s=qqQ s.p s.R:=List.countP_congr fun a ha=>by rw[qqV hv ha]
def qbk:∀n,(qdq n).length=2^n
 |0=>rfl
 |n+1=>by rw[qdq,qAq,qAY,qAY,qbk n,qCM];omega
def qfa{p}(hv:qk p=0)(hl:p.vars.length<=1000):(LW p (NG p).flatten:Int)=kl p.vars (qK p):=by
 obtain⟨h1,h2⟩:=YN hv hl;have h3:=(qbb hv).length_eq;rw[qAY,qbk,h2]at h3;have:LW p (NG p).flatten=(p.vars.map qlt).sum:=by
  rcases Nat.lt_trichotomy (LW p (NG p).flatten) (p.vars.map qlt).sum with h|h|h
  . have:=Nat.pow_lt_pow_right (by decide:1<2) h;omega
  . exact h
  have:=Nat.pow_lt_pow_right (by decide:1<2) h;omega
 rw[h1,this]
structure FoB where
 E:Nat
 D:Nat
 G:Nat
 V:Nat
 C:Nat
 K:Nat
 DL:Nat
 KL:Nat
def qsv(b:Bool):AV:=.bool b
def qoc(n:Int):AV:=.int .i64 n
structure FoOk(B:FoB)(nv cf:AV)(e0 e1:Int)(f:Nat)(val:Nat->Int)(H:List Blk):Prop where
 e:H[B.E]?=some (.cells [.int .i64 e0,.int .i64 e1])
 d:H[B.D]?=some (.cells [.ms B.DL 0 (f+1) 1])
 g:H[B.G]?=some (.cells [nv])
 v:H[B.V]?=some (.cells [.fn 147 [] [.ptr B.E 0,.ptr B.D 0,.ptr B.G 0,.ptr B.V 0,.ptr B.C 0,.ptr B.K 0]])
 c:H[B.C]?=some (.cells [cf])
 k:H[B.K]?=some (.cells [.ms B.KL 0 (f+1) 1])
 ne:B.DL≠B.KL
 o:∀b∈[B.E,B.D,B.G,B.V,B.C,B.K],b≠B.DL/\b≠B.KL
 r:∃(dn:List Bool) (kn:List Int),H[B.DL]?=some (.cells (dn.map qsv))/\H[B.KL]?=some (.cells (kn.map qoc))/\dn.length=f+1/\kn.length=f+1/\∀j,dn[j]?=some true->kn[j]?=some (val j)
def FoOk.keep{B nv cf e0 e1 f val H H'}(h:FoOk B nv cf e0 e1 f val H)(hk:KpL [] H H'):FoOk B nv cf e0 e1 f val H':=by
 obtain⟨dn,kn,h1,h2,h3⟩:=h.r;exact⟨hk.2 _ _ h.e (by simp),hk.2 _ _ h.d (by simp),hk.2 _ _ h.g (by simp),hk.2 _ _ h.v (by simp),hk.2 _ _ h.c (by simp),hk.2 _ _ h.k (by simp),h.ne,h.o,dn,kn,hk.2 _ _ h1 (by simp),hk.2 _ _ h2 (by simp),h3⟩
def FoQ(B:FoB)(nv cf:AV)(e0 e1:Int)(f:Nat)(val:Nat->Int)(k:Nat)(H:List Blk)(r:AV)(U':St):Prop:=r=.int .i64 (val k)/\KpL [B.DL,B.KL] H U'.H/\FoOk B nv cf e0 e1 f val U'.H
def qnd:List (Nat×Sch×List Nat):=[(5,.step 0 [9,8,7,3] (.step 1 [9,8,7,3,2] (.step 2 [9,8,7,3] (.step 5 [9,8,7,6] (.fork (.cons 3 (.step 4 [9,8,7] (.step 6 [9,8,7] (.step 7 [9,8] (.step 8 [9] (.step 9 [] (.done)))))) (.cons 4 (.fork (.cons 3 (.step 6 [9,8,7] (.step 7 [9,8] (.step 8 [9] (.step 9 [] (.done))))) (.cons 6 (.step 3 [9,8,7] (.step 7 [9,8] (.step 8 [9] (.step 9 [] (.done))))) (.nil)))) (.cons 6 (.fork (.cons 3 (.step 4 [9,8,7] (.step 7 [9,8] (.step 8 [9] (.step 9 [] (.done))))) (.cons 4 (.step 3 [9,8,7] (.step 7 [9,8] (.step 8 [9] (.step 9 [] (.done))))) (.nil)))) (.nil)))))))),[3,7]),(6,.step 1 [12,11,10,9] (.step 3 [12,11] (.step 4 [12,11,10,9,8] (.step 5 [12,11,10,9,8] (.step 6 [12,11,10,9,8] (.step 7 [12,11,10,9,8] (.fork (.cons 0 (.fork (.cons 2 (.step 8 [12,11,10,9] (.step 9 [12,11,10] (.step 10 [12,11] (.step 11 [12] (.step 12 [] (.done)))))) (.cons 8 (.step 9 [12,11,10] (.fork (.cons 2 (.step 10 [12,11] (.step 11 [12] (.step 12 [] (.done)))) (.cons 10 (.step 2 [12,11] (.step 11 [12] (.step 12 [] (.done)))) (.nil))))) (.nil)))) (.cons 2 (.fork (.cons 0 (.step 8 [12,11,10,9] (.step 9 [12,11,10] (.step 10 [12,11] (.step 11 [12] (.step 12 [] (.done)))))) (.cons 8 (.step 0 [12,11,10,9] (.step 9 [12,11,10] (.step 10 [12,11] (.step 11 [12] (.step 12 [] (.done)))))) (.nil)))) (.cons 8 (.step 0 [12,11,10,9] (.step 9 [12,11,10] (.fork (.cons 2 (.step 10 [12,11] (.step 11 [12] (.step 12 [] (.done)))) (.cons 10 (.step 2 [12,11] (.step 11 [12] (.step 12 [] (.done)))) (.nil)))))) (.nil)))))))))),[8])]
def qsx{dn:List Bool}{k b}(h:dn[k]?=some b):(dn.map qsv).drop k=.bool b::(dn.map qsv).drop (k+1):=by
 have h':(dn.map qsv)[k]?=some (.bool b):=by rw[qAR,h];rfl
 obtain⟨h1,h2⟩:=qAm.1 h';rw[qAJ h1,h2]
def qrT{kn:List Int}{k b}(h:kn[k]?=some b):(kn.map qoc).drop k=.int .i64 b::(kn.map qoc).drop (k+1):=by
 have h':(kn.map qoc)[k]?=some (.int .i64 b):=by rw[qAR,h];rfl
 obtain⟨h1,h2⟩:=qAm.1 h';rw[qAJ h1,h2]
def qse{B nv cf e0 e1 f val H0 H k r}{dn:List Bool}{kn:List Int}(h:FoOk B nv cf e0 e1 f val H)(hk:k<=f)(h1:H[B.DL]?=some (.cells (dn.map qsv)))(h2:H[B.KL]?=some (.cells (kn.map qoc)))(l1:dn.length=f+1)(l2:kn.length=f+1)
 (hv:∀j,dn[j]?=some true->kn[j]?=some (val j)) (hr:r=val k) (hkp:KpL [B.DL,B.KL] H0 H) (T):FoQ B nv cf e0 e1 f val k H0 (.int .i64 r) ⟨(H.set B.KL (.cells ((kn.map qoc).set k (.int .i64 r)))).set B.DL (.cells ((dn.map qsv).set k (.bool true))),T⟩:=by
 have lD:=(qAm.1 h1).1;have lK:=(qAm.1 h2).1;have hs:∀b∈[B.E,B.D,B.G,B.V,B.C,B.K],∀y z,((H.set B.KL y).set B.DL z)[b]?=H[b]? := fun b hb y z=>by
  obtain⟨o1,o2⟩:=h.o b hb;rw[qAp (Ne.symm o1),qAp (Ne.symm o2)]
 refine⟨by rw[hr],hkp.trans (qFg (qFi (by simp)) (qFi (by simp))),?_⟩;refine⟨by rw[hs _ (by simp)];exact h.e,by rw[hs _ (by simp)];exact h.d,by rw[hs _ (by simp)];exact h.g,by rw[hs _ (by simp)];exact h.v,by rw[hs _ (by simp)];exact h.c,by rw[hs _ (by simp)];exact h.k,h.ne,h.o,dn.set k true,kn.set k r,?_,?_,by simp[l1],by simp[l2],?_⟩
 . dsimp only;rw[qAt (by rw[qBK];exact lD),qDg];rfl
 . dsimp only;rw[qAp h.ne,qAt lK,qDg];rfl
 intro j hj;by_cases hjk:k=j
 . subst hjk;rw[qAt (by omega),hr]
 rw[qAp hjk]at hj⊢;exact hv j hj
def qsd{B:FoB}(Rc:Nat->Prop){d:List Nd}{tok:Abs.Tok}(hd:DagOk d){c:Nat}{cfr:List AV}{e0 e1:Int}{f:Nat}{val:Nat->Int}(hf:f<d.length)(P:List Blk->Prop)(hP:∀H H',P H->KpL [B.DL,B.KL] H H'->P H')
 (comb:Nd->Int->Int->Int) (hv0:val 0=e0) (hv1:val 1=e1) (hv2:∀k n,Rc k->2<=k->d[k]?=some n->Rc n.2.1/\Rc n.2.2/\val k=comb n (val n.2.1) (val n.2.2))
 (hc:∀k n (H:List Blk) (T:List (Option Nat)),Rc k->2<=k->d[k]?=some n->P H->qg prog GG c ([.agg (qH n),.int .i64 (val n.2.1),.int .i64 (val n.2.2)]++cfr) ⟨H,T⟩ (fun r U'=>r=.int .i64 (comb n (val n.2.1) (val n.2.2))/\KpL [] H U'.H)) :
 ∀ (m k:Nat),k<m->k<=f->Rc k->∀(H:List Blk) (T:List (Option Nat)),P H->FoOk B (.sl 3 (d.map qH) tok) (.fn c [] cfr) e0 e1 f val H ->
  qg prog GG 147 [.int .i64 k,.ptr B.E 0,.ptr B.D 0,.ptr B.G 0,.ptr B.V 0,.ptr B.C 0,.ptr B.K 0] ⟨H,T⟩ (FoQ B (.sl 3 (d.map qH) tok) (.fn c [] cfr) e0 e1 f val k H):=by
 intro m
 induction m with
 |zero=>intro k hk;omega
 | succ m ih=>
  intro k hkm hkf hRk H T hPH hok;refine qEH ⟨false,qnd,[],[]⟩ qe func147 rfl (by kernel_rfl) ?_;obtain⟨dn,kn,hdn,hkn,ldn,lkn,hval⟩:=hok.r;obtain⟨bE,bD,bG,bV,bC,bK,hne,ho,-⟩:=id hok;by_cases h2:k<2
  . have fin:∀u,FoQ B (.sl 3 (d.map qH) tok) (.fn c [] cfr) e0 e1 f val k H (.int .i64 (val k)) ⟨H++u,T⟩:=fun u=>⟨rfl,qFh,hok.keep qFh⟩
    have hk01:k=0\/k=1:=(by omega);rcases hk01 with rfl|rfl
    . rw[hv0]at fin;simp[bE];have:=fin [];simpa using this
    rw[hv1]at fin;simp[bE];have:=fin [];simpa using this
  have h2':¬(k:Int)<2:=by omega
  have h2b:2<=k:=by omega
  obtain⟨n,hn⟩:∃n,d[k]?=some n:=⟨_,qAo (by omega)⟩;obtain⟨b,hb⟩:∃b,dn[k]?=some b:=⟨_,qAo (by omega)⟩;have hdr:=qsx hb;have hkl':(k:Int)<f+1:=by omega
  cases b with
  | true=>
   have hkv:=hval k hb;have hdk:=qrT hkv;simp[h2',hkf,bD,bK,hdn,hkn,hdr,hdk,hkl',ldn,lkn];exact⟨rfl,qFf,hok⟩
  | false=>
   obtain⟨hn20,hlo,hhi,-⟩:=hd.node k n h2b hn;obtain⟨nl,lo,hi⟩:=n;dsimp only at hlo hhi;simp[h2',hkf,bD,bG,hdn,hdr,hkl',ldn,hn];rw[qR rfl];have bV0:=qd bV;simp[ze,bV0];have hP0:P (H++[.cells [.int .i64 nl,.int .i64 lo,.int .i64 hi]]):=hP _ _ hPH qFh;have hv2k:=hv2 k _ hRk h2b hn;dsimp only at hv2k;have c1:=ih lo (by omega) (by omega) hv2k.1 (H++[.cells [.int .i64 nl,.int .i64 lo,.int .i64 hi]]) T hP0 (hok.keep qFh);have hlD:=(qAm.1 hdn).1;have hlK:=(qAm.1 hkn).1;have hbX:H.length≠B.DL/\H.length≠B.KL:=⟨by omega,by omega⟩
   repeat' with_reducible refine And.intro ?_ ?_
   all_goals
    refine qEM c1 ?_;rintro r ⟨H1,T1⟩ ⟨rfl,hk1,ok1⟩;have bX1:=hk1.2 _ _ lk0 (by simpa using hbX);have bV1:=ok1.v;have P1:=hP _ _ hP0 hk1;have c2:=ih hi (by omega) (by omega) hv2k.2.1 H1 T1 P1 ok1;simp[ze,bV1,bX1];refine qEM c2 ?_;rintro r ⟨H2,T2⟩ ⟨rfl,hk2,ok2⟩;have bX2:=hk2.2 _ _ bX1 (by simpa using hbX);have P2:=hP _ _ P1 hk2;obtain⟨dn2,kn2,hdn2,hkn2,ldn2,lkn2,hval2⟩:=ok2.r;obtain⟨bE2,bD2,bG2,bV2,bC2,bK2,-,-,-⟩:=id ok2;simp[ze];rw[qR rfl];simp[ze,bX2,bC2,bK2,bD2]
    repeat' with_reducible refine And.intro ?_ ?_
    all_goals
     have c3:=hc k (nl,lo,hi) H2 T2 hRk h2b hn P2;simp only[qH,qAL,qAK]at c3;refine qEM c3 ?_;rintro r ⟨H3,T3⟩ ⟨rfl,hk3⟩;have ok3:=ok2.keep hk3;have hdn3:=hk3.2 _ _ hdn2 (by simp);have hkn3:=hk3.2 _ _ hkn2 (by simp);have bK3:=ok3.k;have bD3:=ok3.d;have lK3:=(qAm.1 hkn3).1;have oK:=ho B.K (by simp);have oD:=ho B.D (by simp);have fin:=qse (r:=comb (nl,lo,hi) (val lo) (val hi)) ok3 hkf hdn3 hkn3 ldn2 lkn2 hval2 (hv2k.2.2).symm (qFg (qFh.trans (hk1.trans hk2)) (hk3.sub (by simp))) T3;have q1:∀y,(H3.set B.KL y)[B.D]?=some (.cells [.ms B.DL 0 (f+1) 1]):=fun y=>by rw[qAp (Ne.symm oD.2)];exact bD3
     have q2:∀y,(H3.set B.KL y)[B.K]?=some (.cells [.ms B.KL 0 (f+1) 1]):=fun y=>by rw[qAp (Ne.symm oK.2)];exact bK3
     have q3:∀y,(H3.set B.KL y)[B.DL]?=some (.cells (dn2.map qsv)):=fun y=>by rw[qAp (Ne.symm hne)];exact hdn3
     have q4:∀y z,((H3.set B.KL y).set B.DL z)[B.K]?=some (.cells [.ms B.KL 0 (f+1) 1]):=fun y z=>by rw[qAp (Ne.symm oK.1)];exact q2 y
     have q5:∀y z,((H3.set B.KL y).set B.DL z)[B.KL]?=some y:=fun y z=>by rw[qAp hne];exact qAt lK3
     have q6:∀x,((kn2.map qoc).set k x).drop k=x::(kn2.map qoc).drop (k+1):=fun x=>by
      have hl:k<((kn2.map qoc).set k x).length:=(by simp;omega);rw[qAJ hl,List.getElem_set_self,List.drop_set_of_lt (by omega)]
     simp[ze,q6,bK3,bD3,hkn3,q1,q3,q4,q5,hkf,ldn2,lkn2,hkl'];exact fin
def qkF(Rc:Nat->Prop){d:List Nd}(hd:DagOk d){c:Nat}{cfr:List AV}{e0 e1:Int}{f:Nat}{val:Nat->Int}(hf:f<d.length)(hRf:Rc f)
 (comb:Nd->Int->Int->Int) (hv0:val 0=e0) (hv1:val 1=e1) (hv2:∀k n,Rc k->2<=k->d[k]?=some n->Rc n.2.1/\Rc n.2.2/\val k=comb n (val n.2.1) (val n.2.2)) (H:List Blk) (T:List (Option Nat))
 (hc:∀k n (H':List Blk) (T':List (Option Nat)),Rc k->2<=k->d[k]?=some n->KpL [] H H'->qg prog GG c ([.agg (qH n),.int .i64 (val n.2.1),.int .i64 (val n.2.2)]++cfr) ⟨H',T'⟩ (fun r U'=>r=.int .i64 (comb n (val n.2.1) (val n.2.2))/\KpL [] H' U'.H)) :
 qg prog GG 93 [.agg [.sl 3 (d.map qH) .none],.int .i64 f,.agg [.int .i64 e0,.int .i64 e1],.fn c [] cfr] ⟨H,T⟩ (fun r U'=>r=.int .i64 (val f)/\KpL [] H U'.H):=by
 refine qEI qe func93 rfl (by kernel_rfl) ?_;have hdm:=hd.most;have hw:=wr (n:=(f:Int)+1) (by omega) (by omega);have h1:(f:Int)+1<=549755813888:=by omega
 have h2:(0:Int)<=(f:Int)+1:=by omega
 simp[hw,qI,show ¬(f:Int)+1=0 by omega,h1,h2];have lk:∀(a b c d e f g h:Blk),(H++[a,b,c,d,e,f,g,h])[H.length]?=some a/\(H++[a,b,c,d,e,f,g,h])[H.length+1]?=some b/\(H++[a,b,c,d,e,f,g,h])[H.length+2]?=some c/\(H++[a,b,c,d,e,f,g,h])[H.length+3]?=some d/\(H++[a,b,c,d,e,f,g,h])[H.length+4]?=some e/\(H++[a,b,c,d,e,f,g,h])[H.length+5]?=some f/\(H++[a,b,c,d,e,f,g,h])[H.length+6]?=some g/\(H++[a,b,c,d,e,f,g,h])[H.length+7]?=some h:=by
  intros
  refine⟨?_,?_,?_,?_,?_,?_,?_,?_⟩<;>simp[]
 have hfo:=qsd (B:=⟨H.length+1,H.length+6,H.length,H.length+7,H.length+2,H.length+4,H.length+5,H.length+3⟩) Rc (tok:=.none) hd (c:=c) (cfr:=cfr) (e0:=e0) (e1:=e1) (f:=f) (val:=val) hf (fun H'=>KpL [] H H')
  (fun H1 H2 h1 h2=>⟨qBf h1.1 h2.1,fun k x hk _=>h2.2 k x (h1.2 k x hk (by simp)) (by have:=(qAm.1 hk).1;simp;omega)⟩) comb hv0 hv1 hv2 hc (f+1) f (by omega) (qAy _) hRf
 refine qEM (hfo _ _ qFh ?_) ?_
 . obtain⟨a0,a1,a2,a3,a4,a5,a6,a7⟩:=lk (.cells [.sl 3 (d.map qH) .none]) (.cells [.int .i64 e0,.int .i64 e1]) (.cells [.fn c [] cfr]) (.cells (List.replicate (f+1) (.int .i64 0))) (.cells [.ms (H.length+3) 0 (f+1) 1]) (.cells (List.replicate (f+1) (.bool false))) (.cells [.ms (H.length+5) 0 (f+1) 1]) (.cells [.fn 147 [] [.ptr (H.length+1) 0,.ptr (H.length+6) 0,.ptr H.length 0,.ptr (H.length+7) 0,.ptr (H.length+2) 0,.ptr (H.length+4) 0]]);refine⟨a1,a6,a0,a7,a2,a4,by dsimp only;omega,by simp,List.replicate (f+1) false,List.replicate (f+1) 0,by dsimp only;rw[a5,qDe];rfl,by dsimp only;rw[a3,qDe];rfl,by simp,by simp,fun j hj=>?_⟩;rw[qDn]at hj;split at hj<;>cases hj
 rintro r ⟨H1,T1⟩ ⟨rfl,hk1,-⟩;simp;exact⟨qBf (by simp) hk1.1,fun k x hk _=>hk1.2 k x (qd hk _) (by have:=(qAm.1 hk).1;simp;omega)⟩
def qsg(n a b H T):qg prog GG 94 [.agg (qH n),.int .i64 a,.int .i64 b] ⟨H,T⟩ (fun r U'=>r=.int .i64 (Z5 n a b)/\KpL [] H U'.H):=by
 refine⟨by kernel_rfl,fun w0 ro0 K w vs hw hvs=>?_⟩;simp only[qj,qi,qH]at hvs;obtain⟨v0,vr,e0,⟨cs,rfl,c0,cr,e1,rfl,c1,cr1,rfl,rfl,c2,cr2,rfl,rfl,rfl⟩,v1,vr1,rfl,rfl,v2,vr2,rfl,rfl,rfl⟩:=hvs;have ecs:cs = #[.int .i64 n.1,.int .i64 n.2.1,.int .i64 n.2.2]:=by apply Array.ext';simpa using e1
 subst ecs;have evs:vs = #[.agg #[.int .i64 n.1,.int .i64 n.2.1,.int .i64 n.2.2],.int .i64 a,.int .i64 b]:=by apply Array.ext';simpa using e0
 subst evs
 go_enter func94,Tryz.ntmps94
 go_wp2
 have hmax:∀W:World,Sem.run prog (Builtin.max_ #[3,3,3] 3 #[.int .i64 n.1,.int .i64 a,.int .i64 b]) W=.ok (.int .i64 (Z5 n a b)) W:=fun W=>by
  have e:(if b > (if a > (n.1:Int) then a else(n.1:Int)) then b else(if a > (n.1:Int) then a else(n.1:Int)))=Z5 n a b:=by
   unfold Z5;split<;>split<;>omega
  rw[<- e];simp[Builtin.max_,Builtin.max2]
 rw[hmax];simp only[Result.andThen];rw[Oper.upon_value]
 go_wp2
 have hw3:=hw.push (b:=.cells [.int .i64 n.1,.int .i64 n.2.1,.int .i64 n.2.2]) (o:=.cells #[.int .i64 n.1,.int .i64 n.2.1,.int .i64 n.2.2] 150) ⟨_,150,rfl,by simp,by simp,fun i a e=>by
  match i,e with
  |0,e=>simp at e;subst e;exact⟨_,rfl,by simp[qi]⟩
  |1,e=>simp at e;subst e;exact⟨_,rfl,by simp[qi]⟩
  |2,e=>simp at e;subst e;exact⟨_,rfl,by simp[qi]⟩
  |i+3,e=>simp at e⟩
 simp only[bodyPost];refine⟨trivial,.int .i64 (Z5 n a b),by simp[results,Tryz.results94,go_sem],.inl ⟨_,.int .i64 (Z5 n a b),_,_,rfl,qEW hw w.heap.size _,hw3,by simp[qi],rfl,qFh⟩⟩
def qaH{d:List Nd}{k n:Nat}(hk:k<d.length):Pure prog GG 96 [.agg [.sl 3 (d.map qH) .none,.int .i64 n],.int .i64 k] (.int .i64 (wZ d n k:Nat)):=by
 refine qEG qe func96 rfl (by kernel_rfl) ?_;obtain⟨x,hx⟩:∃x,d[k]?=some x:=⟨_,qAo hk⟩;have hl:wQ (.int .i64 (x.1:Int)) (.int .i64 (n:Int))=some (.int .i64 (wZ d n k:Nat)):=by
  have:wZ d n k=min x.1 n:=by unfold wZ;rw[zQ hx]
  rw[this];simp only[wQ];congr 2;split<;>omega
 simp[hx,hl]
def qyb(a s:Nat)(hs:s<=20)(ha:a*2^s<2^62):IntKind.i64.wrap ((a:Int)*2^(min s 64))=((a*2^s:Nat):Int):=by
 rw[show min s 64=s by omega,show((a:Int)*2^s)=((a*2^s:Nat):Int) by simp];generalize a*2^s=N at ha;rw[wr (by omega) (by omega)]
def qsE(d:List Nd)(n:Nat)(x:Nd)(a b:Int):Int:=a*2^(wZ d n x.2.1-(x.1+1))+b*2^(wZ d n x.2.2-(x.1+1))
def qoF{d}(hd:DagOk d){n k:Nat}{x}(hn:n<=20)(h2:2<=k)(hx:d[k]?=some x)(hdp:yD d k<n){C H}(hC:H[C]?=some (.cells [.sl 3 (d.map qH) .none,.int .i64 n]))(T) :
 qg prog GG 148 [.agg (qH x),.int .i64 (YK d n x.2.1:Nat),.int .i64 (YK d n x.2.2:Nat),.ptr C 0] ⟨H,T⟩ (fun r U'=>r=.int .i64 (YK d n k:Nat)/\KpL [] H U'.H):=by
 refine qEI qe func148 rfl (by kernel_rfl) ?_;obtain⟨c1,c2,c3,c4,c5,c6⟩:=qc9 hd hn h2 hx hdp;obtain⟨g1,g2,g3,g4,g5,g6⟩:=hd.node k x h2 hx;have hk:=(qAm.1 hx).1;have b1:=qk8 d n x.2.1;have b2:=qk8 d n x.2.2;have l1:=qaH (d:=d) (k:=x.2.1) (n:=n) (by omega);have l2:=qaH (d:=d) (k:=x.2.2) (n:=n) (by omega);have m1:wZ d n x.2.1<=n:=qCB _ _;have m2:wZ d n x.2.2<=n:=qCB _ _;obtain⟨L,lo,hi⟩:=x;dsimp only at *;generalize YK d n lo=A at *;generalize YK d n hi=B at *;generalize wZ d n lo=P at *;generalize wZ d n hi=Q at *;have p20:∀{a m s:Nat},a<=2^m->m+s<=20->a*2^s<=2^20:=fun {a m s} h1 h2=>by
  have:=qBl (2^s) h1;rw[<- Nat.pow_add]at this;exact qBf this (qAV (by omega) h2)
 have e1:=p20 (s:=P-(L+1)) b1 (by omega);have e2:=p20 (s:=Q-(L+1)) b2 (by omega);have s1:=qyb A (P-(L+1)) (by omega) (by omega);have s2:=qyb B (Q-(L+1)) (by omega) (by omega);rw[c6];generalize A*2^(P-(L+1))=U_ at *;generalize B*2^(Q-(L+1))=V at *;have w1:=wr (n:=(P:Int)-L) (by omega) (by omega);have w2:=wr (n:=(P:Int)-L-1) (by omega) (by omega);have w3:=wr (n:=(Q:Int)-L) (by omega) (by omega);have w4:=wr (n:=(Q:Int)-L-1) (by omega) (by omega);have w5:=wr (n:=(U_:Int)+V) (by omega) (by omega);have q1:(P:Int)-L-1=((P-(L+1):Nat):Int):=by omega
 have q2:(Q:Int)-L-1=((Q-(L+1):Nat):Int):=by omega
 rw[q1]at w2;rw[q2]at w4;have hC0:=qd hC;simp[-zw,hC0];refine qEJ l1 (by simp) ?_;simp[-zw,JY,hC0,w1,w2,q1,s1,show ¬((P-(L+1):Nat):Int)<0 by omega,IntKind.bits];refine qEJ l2 (by simp) ?_;simp[-zw,JY,Kx,w3,w4,q2,s2,show ¬((Q-(L+1):Nat):Int)<0 by omega,w5,IntKind.bits];exact qFh
def qpZ{d}(hd:DagOk d){n:Nat}(hn:n<=20):∀k x,(k<d.length/\yD d k<n)->2<=k->d[k]?=some x->(x.2.1<d.length/\yD d x.2.1<n)/\(x.2.2<d.length/\yD d x.2.2<n)/\(YK d n k:Int)=qsE d n x (YK d n x.2.1:Nat) (YK d n x.2.2:Nat):=fun k x hk h2 hx=>by
 obtain⟨c1,c2,c3,c4,c5,c6⟩:=qc9 hd hn h2 hx hk.2;obtain⟨g1,g2,g3,g4,g5,g6⟩:=hd.node k x h2 hx;refine⟨⟨by omega,c4⟩,⟨by omega,c5⟩,?_⟩;rw[c6];simp[qsE]
def qoG{d}(hd:DagOk d){n k:Nat}(hn:n<=20)(hk:k<d.length)(hdp:yD d k<n)(H T) :
 qg prog GG 95 [.agg [.sl 3 (d.map qH) .none,.int .i64 n],.int .i64 k] ⟨H,T⟩ (fun r U'=>r=.int .i64 (YK d n k:Nat)/\KpL [] H U'.H):=by
 refine qEI qe func95 rfl (by kernel_rfl) ?_;have hf:=qkF (fun k=>k<d.length/\yD d k<n) hd (c:=148) (cfr:=[.ptr H.length 0]) (e0:=0) (e1:=1) (f:=k) (val:=fun k=>(YK d n k:Nat)) hk ⟨hk,hdp⟩ (qsE d n) (by rw[qvk hd hn];rfl) (by rw[qvj hd hn];rfl) (qpZ hd hn)
  (H++[.cells [.sl 3 (d.map qH) .none,.int .i64 n]]) T (fun k x H' T' hk h2 hx hk'=>by
    have:=qoF hd hn h2 hx hk.2 (C:=H.length) (H:=H') (hk'.2 _ _ lk0 (by simp)) T';rw[<- (qpZ hd hn k x hk h2 hx).2.2];exact this)
 simp;refine qEM hf ?_;rintro r ⟨H1,T1⟩ ⟨rfl,hk1⟩;simp;exact qFh.trans hk1
def qnj:List (Nat×Sch×List Nat):=[(1,.step 0 [9,8,7,5,2] (.step 1 [9,8,7,5,2] (.step 4 [9,8,7,5] (.step 6 [9,8,7] (.fork (.cons 2 (.step 3 [9,8,7,5] (.step 5 [9,8,7] (.step 7 [9,8] (.step 8 [9] (.step 9 [] (.done)))))) (.cons 3 (.step 2 [9,8,7,5] (.step 5 [9,8,7] (.step 7 [9,8] (.step 8 [9] (.step 9 [] (.done)))))) (.nil))))))),[2])]
def qsc{d}(hd:DagOk d){n k:Nat}(hn:n<=20)(hk:k<d.length)(hdp:yD d k<n)(H T) :
 qg prog GG 52 [.agg [.sl 3 (d.map qH) .none,.int .i64 n],.int .i64 k,.int .i64 0] ⟨H,T⟩ (fun r U'=>r=.int .i64 (VT d 0 n k:Nat)/\KpL [] H U'.H):=by
 refine qEH ⟨false,qnj,[],[]⟩ qe func52 rfl (by kernel_rfl) ?_;have hb:=qoG hd hn hk hdp (H++[.cells [.sl 3 (d.map qH) .none,.int .i64 n]]) T;have hl:=qaH (d:=d) (k:=k) (n:=n) hk;have hc:=Wm (d:=d) (n:=n) (k:=k) (l:=0) (qCf _);have hle:=qa5 d n 0 k;have m1:wZ d n k<=n:=qCB _ _;rw[qDc,qDc]at hc;rw[hc]at hle⊢;have h20:(2:Nat)^n<=2^20:=qAV (by omega) hn;have s1:=qyb (YK d n k) (wZ d n k) (by omega) (by omega);generalize YK d n k*2^wZ d n k=U_ at *;generalize YK d n k=A at *;generalize wZ d n k=P at *;have w1:=wr (n:=(P:Int)) (by omega) (by omega);simp;rw[qR rfl];simp[ze];refine⟨qEM hb ?_,qEM hb ?_⟩
 all_goals
  rintro r ⟨H1,T1⟩ ⟨rfl,hk1⟩;have b1:=hk1.2 _ _ lk0 (by simp);simp[ze,b1];refine qEJ hl (by simp) ?_;simp[-zw,ze,JY,w1,show ¬(P:Int)<0 by omega,s1,IntKind.bits];exact qFh.trans hk1
def qsh{d:List Nd}(hd:DagOk d){n k:Nat}(hn:n<=20)(hk:k<d.length)(hdp:yD d k<n)(H:List Blk)(T:List (Option Nat)) :
 qg prog GG 51 [.agg (zF d),.int .i64 k,.int .i64 n] ⟨H,T⟩ (fun r U'=>r=.bool true/\KpL [] H U'.H):=by
 refine qEI qe func51 rfl (by kernel_rfl) ?_;have hf:=qkF (fun _=>True) hd (c:=94) (cfr:=[]) (e0:=-1) (e1:=-1) (f:=k) (val:=yD d) hk trivial Z5 qkE qkD (fun k x _ h2 hx=>⟨trivial,trivial,wS hd h2 hx⟩)
  (H++[.cells (zF d)]) T (fun k x H' T' _ h2 hx hk'=>qsg x _ _ H' T')
 simp only[zF]at hf;have hv:=Wj d hd;simp only[zF]at hv;generalize yD d k=D at *;simp[show ¬(n:Int)<0 by omega,show ¬(20:Int)<n by omega,show ¬d.length<=k by omega];refine qEJ hv (by simp) ?_;simp[show ¬(k:Int)<0 by omega,show ¬(d.length:Int)<=k by omega];refine qEM hf ?_;rintro r ⟨H1,T1⟩ ⟨rfl,hk1⟩;simp[hdp];exact qFh.trans hk1
def qsD{d}(hd:DagOk d){n k:Nat}(hn:n<=20)(hk:k<d.length)(hdp:yD d k<n)(H T) :
 qg prog GG 25 [.agg (zF d),.int .i64 k,.int .i64 n] ⟨H,T⟩ (fun r U'=>r=.tup [.int .i64 (VT d 0 n k:Nat),.int .i64 0]/\KpL [] H U'.H):=by
 refine qEI qe func25 rfl (by kernel_rfl) ?_;have hf:=qsh hd hn hk hdp (H++[.cells (zF d)]) T;simp only[zF]at hf;simp;refine qEM hf ?_;rintro r ⟨H1,T1⟩ ⟨rfl,hk1⟩;have b1:=hk1.2 _ _ lk0 (by simp);simp[b1];refine qEM (qsc hd hn hk hdp H1 T1) ?_;rintro r ⟨H2,T2⟩ ⟨rfl,hk2⟩;simp;exact qFh.trans (hk1.trans hk2)
structure RnH(p):Prop where
 q:VQ p
 v20:p.vars.length<=20
 bits:kl p.vars (qK p)<=18
 dl:p.dists.length<=10000
 sl:p.soft.length<=10000
 wl:∀d∈p.dists,d.weights.length<=1000
noncomputable def ju(p:Problem):Nat×Int:=if(qE p).2≠0 then(0,(qE p).2) else(qqQ p (qE p).1,0)
def qrm:List (Nat×Sch×List Nat):=[(5,.step 0 [14,13,12,11,10,3,2,1] (.step 1 [14,13,12,11,10,3,2] (.step 2 [14,13,12,11,10,3] (.step 3 [14,13,12,11,10] (.step 4 [14,13,12,11,10,7,6,5] (.step 5 [14,13,12,11,10,7,6] (.step 6 [14,13,12,11,10,7] (.step 7 [14,13,12,11,10] (.step 8 [14,13,12,11,10,9] (.step 9 [14,13,12,11,10] (.step 10 [14,13,12,11] (.step 11 [14,13] (.step 12 [14,13] (.step 13 [14] (.step 14 [] (.done))))))))))))))),[10])]
def RnH.LW{p}(h:RnH p)(hv:qk p=0):LW p (NG p).flatten<=18:=by
 have h1:=qfa hv h.q.vars;have h2:=h.bits;omega
def RnH.all{p}(h:RnH p)(hv:qk p=0):(jV p.vars).length<=2^18:=by
 have h3:=(qbb hv).length_eq;rw[qAY,qbk]at h3;rw[<- h3];exact qAV (by omega) (h.LW hv)
def qdu(p)(h:RnH p)(H T) :
 qg prog GG 12 [.agg (qt p)] ⟨H,T⟩ (fun r U'=>r=.tup [.int .i64 (ju p).1,.int .i64 (ju p).2]/\KpL [] H U'.H):=by
 refine qEH ⟨false,qrm,[],[]⟩ qe func12 rfl (by kernel_rfl) ?_;have hop:=qfT p h.q h.v20 h.bits h.dl h.sl h.wl (H++[.cells (qt p)]) T;obtain⟨res,hres⟩:∃res,res=ju p:=⟨_,rfl⟩;rw[<- hres];unfold ju at hres;simp only[qt]at hop;simp;refine qEM hop ?_;rintro v ⟨H1,T1⟩ ⟨hk1,hr⟩;have b0:=hk1.2 _ _ lk0 (by simp);have hkH:=qFh.trans hk1;rcases hr with⟨he,rfl⟩|⟨he,s,d,rfl,hS,hL,hLL,hsp,hsR,hso,hsv,hroot⟩
 . rw[if_pos he]at hres;subst hres;simp[he];exact hkH
 rw[if_neg (by simp[he])]at hres;subst hres;subst hsp;have hv:=hsv.vp;have hsc:=hso.c;simp only[spE,qt,qAL,qAK]at hsc
 cases hsm:s.small with
 | true=>
  obtain⟨hd,⟨tok,hdv⟩,hrt⟩:=hsv.dag hsm;obtain⟨c1,c2⟩:=qon hv hd hrt (hroot hsm);have hb:=qls s.p h.q h.v20;have hlw:=h.LW hv;rw[<- qfa hv h.q.vars]at hb;have hc:=qsD hd (n:=LW s.p (NG s.p).flatten) (k:=s.root) (by omega) hrt c1 H1 T1;rw[c2]at hc;rw[hsm,hdv]at hsc;simp only[qt]at hb;generalize qqQ s.p (qE s.p).1=N at *;simp[hsc];rw[qR rfl];simp[ze,hsc,b0];refine qEJ hb (by simp) ?_;simp[ze];refine qEM (hc.leq (by simp[zF])) ?_;rintro r ⟨H2,T2⟩ ⟨rfl,hk2⟩;simp[ze];exact hkH.trans hk2
 | false=>
  have hen:=qvd (s:=s) h.q (fun v hv'=>by have:=zd (z0 hv v hv');omega) hsv.rl (fun e he'=>(hsv.rk e he').2) (qBf (h.all hv) (by decide)) hso T1;rw[qj3 hv,hsR]at hen;rw[hsm]at hsc;generalize qqQ s.p (qE s.p).1=N at *;simp[hsc];refine qEM hen ?_;rintro r ⟨H2,T2⟩ ⟨rfl,hk2⟩;simp;exact hkH.trans hk2
def WB(p)(h:RnH p):Pure prog GG 12 [.agg (qt p)] (.tup [.int .i64 (ju p).1,.int .i64 (ju p).2]):=by
 refine Pure.ofA (qdu p h [] []) ?_;rintro v U' ⟨rfl,-⟩;rw[qA (by simp)];exact⟨by simp,qEQ _⟩
noncomputable def jX(p:Problem)(gi:Int)(a:List Int):Int×Int:=if(qE p).2≠0 then(0,(qE p).2) else JQ p gi a
def qoW(p)(h:RnH p)(gi){r a H}(ha:AsR r a H)(T) :
 qg prog GG 8 [.agg (qt p),.int .i64 gi,r] ⟨H,T⟩ (fun v U'=>v=.tup [.int .i64 (jX p gi a).1,.int .i64 (jX p gi a).2]/\KpL [] H U'.H):=by
 refine qEI qe func8 rfl (by kernel_rfl) ?_;have hop:=qfT p h.q h.v20 h.bits h.dl h.sl h.wl (H++[.cells (qt p)]) T;obtain⟨res,hres⟩:∃res,res=jX p gi a:=⟨_,rfl⟩;rw[<- hres];unfold jX at hres;simp only[qt]at hop;simp;refine qEM hop ?_;rintro v ⟨H1,T1⟩ ⟨hk1,hr⟩;have hkH:=qFh.trans hk1;rcases hr with⟨he,rfl⟩|⟨he,s,d,rfl,hS,hL,hLL,hsp,hsR,hso,hsv,hroot⟩
 . rw[if_pos he]at hres;subst hres;simp[he];exact hkH
 rw[if_neg (by simp[he])]at hres;have hR:SpR p s d:=⟨hsp,hsR,hsv,hroot⟩;have ht:=qdT hsv gi hso (ha.keep hkH (by simp)) T1;rw[hR.tot,<- hres]at ht;simp;refine qEM ht ?_;rintro v ⟨H2,T2⟩ ⟨rfl,hk2⟩;simp;exact hkH.trans hk2
def qlS(p)(h:RnH p)(gi a):Pure prog GG 8 [.agg (qt p),.int .i64 gi,.sl 1 (a.map qh) .none] (.tup [.int .i64 (jX p gi a).1,.int .i64 (jX p gi a).2]):=by
 refine Pure.ofA (qoW p h gi (H:=[]) (.inl ⟨.none,rfl⟩) []) ?_;rintro v U' ⟨rfl,-⟩;rw[qA (by simp)];exact⟨by simp,qEQ _⟩
noncomputable def yE(p:Problem)(gi:Int)(a:List Int)(k:Int):List Int×Int :=
 if(jX p gi a).2≠0 then([],(jX p gi a).2) else if k<0\/(jX p gi a).1<=k then([],12) else(Qo p gi.toNat a k,0)
def ChO(o:List Int×Int)(H:List Blk)(v:AV)(U':St):Prop:=KpL [] H U'.H/\∃w b,v=.tup [w,.int .i64 o.2]/\qit b U'.H w o.1
def qmw(p R fx g c):qbn p R fx g c<=lim:=by
 cases g with
 |nil=>unfold qbn lim;split<;>omega
 | cons i r=>
  unfold qbn;split
  . exact yS _ _ _ (qCf _)
  exact qCf _
def qad{p gi a}(h:(JQ p gi a).2=0):0<=gi/\gi.toNat<(NG p).length/\qC p.vars a=true/\1<=(JQ p gi a).1/\(JQ p gi a).1<lim:=by
 unfold JQ at h⊢;split at h
 . cases h
 rename_i hc;rw[if_neg hc];split at h
 . cases h
 rename_i h0;rw[if_neg h0];split at h
 . cases h
 rename_i h1;rw[if_neg h1];have hle:qbQ p (fun _=>none) a gi.toNat<=lim:=qmw _ _ _ _ _;refine⟨?_,?_,?_,?_,?_⟩
 . exact qEs.1 fun e=>hc (.inl e)
 . have:¬gi<0:=fun e=>hc (.inl e)
   have:¬((NG p).length:Int)<=gi:=fun e=>hc (.inr (.inl e))
   omega
 . cases hA:qC p.vars a with
   |true=>rfl
   |false=>exact absurd (.inr (.inr hA)) hc
 . dsimp only;omega
 dsimp only;omega
def qlZ(p)(h:RnH p)(hl12:qk p=0->(NG p).flatten.length<=12)(gi){r a H}(ha:AsR r a H)(k T) :
 qg prog GG 10 [.agg (qt p),.int .i64 gi,r,.int .i64 k] ⟨H,T⟩ (ChO (yE p gi a k) H):=by
 refine qEI qe func10 rfl (by kernel_rfl) ?_;have hop:=qfT p h.q h.v20 h.bits h.dl h.sl h.wl (H++[.cells (qt p)]) T;obtain⟨res,hres⟩:∃res,res=yE p gi a k:=⟨_,rfl⟩;rw[<- hres];unfold yE at hres;simp only[qt]at hop;simp;refine qEM hop ?_;rintro v ⟨H1,T1⟩ ⟨hk1,hr⟩;have hkH:=qFh.trans hk1;rcases hr with⟨he,rfl⟩|⟨he,s,d,rfl,hS,hL,hLL,hsp,hsR,hso,hsv,hroot⟩
 . have hto:jX p gi a=(0,(qE p).2):=if_pos he;rw[hto,if_pos he]at hres;subst hres;simp[he];exact⟨hkH,_,0,rfl,.inl ⟨rfl,_,_,rfl⟩⟩
 have hto:jX p gi a=JQ p gi a:=if_neg (by simp[he]);rw[hto]at hres;have hR:SpR p s d:=⟨hsp,hsR,hsv,hroot⟩;have hv:=hsv.vp;rw[hsp]at hv;have ht:=qdT hsv gi hso (ha.keep hkH (by simp)) T1;rw[hR.tot]at ht;have hok:=qad (p:=p) (gi:=gi) (a:=a);have hch:=fun h1 h2 idx=>hR.ch (a:=a) (gi:=gi.toNat) h1 h2 idx
 generalize JQ p gi a=tt at *;obtain⟨n,e⟩:=tt;simp;refine qEM ht ?_;rintro v ⟨H2,T2⟩ ⟨rfl,hk2⟩;have hkk:=hkH.trans hk2;by_cases he0:e=0
 . subst he0;rw[if_neg (by simp)]at hres;obtain⟨g0,g1,has,n1,n2⟩:=hok rfl;by_cases hk0:k<0
   . rw[if_pos (.inl hk0)]at hres;subst hres;simp[hk0];exact⟨hkk,_,0,rfl,.inl ⟨rfl,_,_,rfl⟩⟩
   by_cases hk1:n<=k
   . rw[if_pos (.inr hk1)]at hres;subst hres;simp[hk0,hk1];exact⟨hkk,_,0,rfl,.inl ⟨rfl,_,_,rfl⟩⟩
   rw[if_neg (fun h=>h.elim hk0 hk1)]at hres;have hc:=qow hsv (by rw[hsp];exact hl12 hv) (gi:=gi.toNat) (by rw[hsp];exact g1) (r:=r) (a:=a) (by rw[hsp];exact Zo hv has) (by rw[hsp];exact(wV hv has).1) (hso.keep hk2 (by simp) (by simp) (by simp)) (ha.keep hkk (by simp)) T2 (idx:=k) (by omega) (by unfold lim at n2;omega);rw[hch has g1 k,show((gi.toNat:Nat):Int)=gi by omega]at hc;simp[hk0,hk1];refine qEM hc ?_;rintro v ⟨H3,T3⟩ ⟨hk3,N,rfl,hN1,hN2⟩;subst hres;simp;refine⟨hkk.trans hk3,_,N,rfl,?_⟩;by_cases hnil:Qo p gi.toNat a k=[]
   . exfalso;have hlen:=congrArg List.length hnil;rw[Zn,(wV hv has).1]at hlen;obtain⟨g,hg⟩:∃g,(NG p)[gi.toNat]?=some g:=⟨_,qAo g1⟩;have hg':=qAn hg;have hgn:g≠[]:=by
      obtain⟨g',hg2,rfl⟩:=qAN.1 hg';have:=(jE hv).1 g' hg2;simpa using this
     have h1:=qlW hv
     cases g with
     |nil=>exact hgn rfl
     | cons x g=>
      have hx:x∈(NG p).flatten:=qAX.2 ⟨_,hg',by simp⟩;have h2:=qEg hx;have h3:p.vars.length=0:=(by simpa using hlen);omega
   exact .inr ⟨hnil,rfl,hN2⟩
 rw[if_pos he0]at hres;subst hres;simp[he0];exact⟨hkk,_,0,rfl,.inl ⟨rfl,_,_,rfl⟩⟩
