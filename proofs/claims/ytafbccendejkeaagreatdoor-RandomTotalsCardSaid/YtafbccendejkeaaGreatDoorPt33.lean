import Derived.Test.YtafbccendejkeaaGreatDoorPt32
import Derived.Test.YtafbccendejkeaaGreatDoorRows
import Derived.ProofKit
import Derived.Stop.Joined
import Derived.SevenTiedAt
set_option maxRecDepth 100000
set_option maxHeartbeats 16000000
set_option linter.all false
set_option linter.defProp false
namespace Go.Proofs.YtafbccendejkeaaGreatDoor
open Go Go.Abs Proofs.Tryz Go.ChangeShapes Go.WideShapes Go.ChangeAt Go.RowKit
def qfA(n:Nat)(h:n<9223372036854775808):Pure prog GG 113 [.int .i64 n] (.int .u64 n):=by
 refine qEG qe func113 rfl (by kernel_rfl) ?_;have h1:=wru (n:=n) (by omega) (by omega);simp[show ¬(n:Int)<0 by omega,wE,h1]
def qeb:∀(b a:Nat),a<18446744073709551616->b<18446744073709551616->Pure prog GG 114 [.int .u64 a,.int .u64 b] (.int .u64 (Nat.gcd a b:Nat)):=by
 intro b a ha hb;refine qEG qe func114 rfl (by kernel_rfl) ?_;simp;refine qEO (fun n ev U=>∃x y:Nat,n=y/\x<18446744073709551616/\y<18446744073709551616/\ev 0=.int .u64 x/\ev 1=.int .u64 y/\Nat.gcd x y=Nat.gcd a b) b ⟨a,b,rfl,ha,hb,by simp,by simp,rfl⟩ ?_;rintro y ev U R hR ⟨x,_,rfl,hx,hy,h0,h1,hg⟩;by_cases hz:y=0
 . subst hz;simp at hg;simp[h0,h1,hg]
 simp[h0,h1,hz];refine hR (x%y) _ _ (qCZ _ (by omega)) ⟨y,x%y,rfl,hy,qBZ (Nat.mod_le _ _) hx,by simp,by simp[qB8],?_⟩;rw[qDi y,<- Nat.gcd_rec,qDi];exact hg
def qai(a b:Nat)(ha:a<9223372036854775808)(hb:b<9223372036854775808):Pure prog GG 65 [.int .i64 a,.int .i64 b] (.agg [.bool false,.int .u64 a,.int .u64 b]):=by
 refine qEG qe func65 rfl (by kernel_rfl) ?_;simp[show ¬(a:Int)<0 by omega,show ¬(b:Int)<0 by omega];refine qEJ (qfA a ha) (by simp) ?_;simp;refine qEJ (qfA b hb) (by simp) ?_;simp
def qs6(a b:Nat)(hb:0<b)(ha:a<18446744073709551616):zw .quo .u64 a b=some (.int .u64 (a/b:Nat)):=by
 have h:¬(b:Int)=0:=by omega
 simp only[zw];rw[if_neg h,qBN (by omega)];show some (AV.int .u64 (IntKind.u64.wrap (((a/b:Nat):Int))))=_;rw[wru (Int.natCast_nonneg _) (Int.ofNat_lt.2 (qBZ (qBy _ _) ha))]
def Vi(n d:Nat)(hn:n<18446744073709551616)(hd:d<18446744073709551616)(h0:0<d) :
 Pure prog GG 66 [.agg [.bool false,.int .u64 n,.int .u64 d]] (.agg [.bool false,.int .u64 (n/Nat.gcd n d:Nat),.int .u64 (d/Nat.gcd n d:Nat)]):=by
 refine qEG qe func66 rfl (by kernel_rfl) ?_;have hg:0<Nat.gcd n d:=qBU _ h0;have h1:=qs6 n _ hg hn;have h2:=qs6 d _ hg hd;simp[-zw];refine qEJ (qeb d n hn hd) (by simp) ?_;generalize Nat.gcd n d=g at *;simp[-zw,h1,h2]
def qhz(n d:Nat):Nat×Nat×Nat:=if n<9223372036854775808/\d<9223372036854775808 then(n,d,0) else(0,0,3)
def qpi(n d:Nat)(hn:n<18446744073709551616)(hd:d<18446744073709551616) :
 Pure prog GG 67 [.agg [.bool false,.int .u64 n,.int .u64 d]] (.tup [.agg [.int .i64 (qhz n d).1,.int .i64 (qhz n d).2.1],.int .i64 (qhz n d).2.2]):=by
 refine qEG qe func67 rfl (by kernel_rfl) ?_;unfold qhz;by_cases h1:n<9223372036854775808
 . have h1':¬(9223372036854775807:Int)<n:=(by omega);have w1:=wr (n:=n) (by omega) (by omega);by_cases h2:d<9223372036854775808
   . have h2':¬(9223372036854775807:Int)<d:=(by omega);have w2:=wr (n:=d) (by omega) (by omega);simp[h1,h1',h2,h2',wE,w1,w2]
   have h2':(9223372036854775807:Int)<d:=(by omega);simp[h1,h1',h2,h2']
 have h1':(9223372036854775807:Int)<n:=by omega
 simp[h1,h1']
def kh(a b:Nat):Nat×Nat:=(a/Nat.gcd a b,b/Nat.gcd a b)
def qpx(a b:Nat)(ha:a<9223372036854775808)(hb:b<9223372036854775808)(h0:0<b) :
 Pure prog GG 37 [.int .i64 a,.int .i64 b] (.tup [.agg [.int .i64 (kh a b).1,.int .i64 (kh a b).2],.int .i64 0]):=by
 refine qEG qe func37 rfl (by kernel_rfl) ?_;have h1:a/Nat.gcd a b<9223372036854775808:=qBZ (qBy _ _) ha;have h2:b/Nat.gcd a b<9223372036854775808:=qBZ (qBy _ _) hb;have hr:=qpi (a/Nat.gcd a b) (b/Nat.gcd a b) (by omega) (by omega);have hre:=Vi a b (by omega) (by omega) h0;unfold qhz at hr;rw[if_pos ⟨h1,h2⟩]at hr;unfold kh;generalize a/Nat.gcd a b=x at *;generalize b/Nat.gcd a b=y at *;simp[show ¬b=0 by omega];refine qEJ (qai a b ha hb) (by simp) ?_;simp;refine qEJ hre (by simp) ?_;simp;refine qEJ hr (by simp) ?_;simp
def qpR(a b c d):qaX (Dof prog) 50 [.int .i64 a,.int .i64 b] [.int .i64 c,.int .i64 d]=some ((a==c)&&(b==d)):=by
 simp[qaX,K8,km,qQ,z7,qBF,jg,kQ]
def qfi(a b:Nat)(ha:a<9223372036854775808)(hb:b<9223372036854775808)(h0:0<b)(hc:Nat.gcd a b=1) :
 Pure prog GG 115 [.agg [.int .i64 a,.int .i64 b]] (.bool true):=by
 refine qEG qe func115 rfl (by kernel_rfl) ?_;have hm:=qpx a b ha hb h0;unfold kh at hm;rw[hc,qEf,qEf]at hm;simp[show ¬(b:Int)<1 by omega];refine qEJ hm (by simp) ?_;simp[qpR]
def qsK(a b c d:Nat)(ha:a<9223372036854775808)(hb:b<9223372036854775808)(h0:0<b)(hab:Nat.gcd a b=1)(hc:c<9223372036854775808)(hd:d<9223372036854775808)(h1:0<d)(hcd:Nat.gcd c d=1) :
 Pure prog GG 69 [.agg [.int .i64 a,.int .i64 b],.agg [.int .i64 c,.int .i64 d]] (.bool true):=by
 refine qEG qe func69 rfl (by kernel_rfl) ?_;simp;refine qEJ (qfi a b ha hb h0 hab) (by simp) ?_;simp;refine qEJ (qfi c d hc hd h1 hcd) (by simp) ?_;simp
def qrf(a b c d:Nat):Nat:=(a/Nat.gcd a d)*(c/Nat.gcd c b)
def qrg(a b c d:Nat):Nat:=(b/Nat.gcd c b)*(d/Nat.gcd a d)
def JW{a b c d:Nat}(hb:0<b)(hd:0<d)(hab:Nat.gcd a b=1)(hcd:Nat.gcd c d=1):Nat.gcd (qrf a b c d) (qrg a b c d)=1:=by
 have hg:0<Nat.gcd a d:=qBU _ hd;have hh:0<Nat.gcd c b:=qBU _ hb;exact Nat.Coprime.mul_left (Nat.Coprime.mul_right (Nat.Coprime.coprime_dvd_left (qDj (qCP a d)) (Nat.Coprime.coprime_dvd_right (qDj (qCw c b)) hab)) (qCY hg)) (Nat.Coprime.mul_right (qCY hh) (Nat.Coprime.coprime_dvd_left (qDj (qCP c b)) (Nat.Coprime.coprime_dvd_right (qDj (qCw a d)) hcd)))
def kw(a b c d:Nat):Nat×Nat×Nat:=qhz (qrf a b c d) (qrg a b c d)
def qhD(a b c d:Nat)(ha:a<9223372036854775808)(hb:b<9223372036854775808)(h0:0<b)(hab:Nat.gcd a b=1)(hc:c<9223372036854775808)(hd:d<9223372036854775808)(h1:0<d)(hcd:Nat.gcd c d=1) :
 Pure prog GG 70 [.agg [.bool false,.int .u64 a,.int .u64 b],.agg [.bool false,.int .u64 c,.int .u64 d]] (.tup [.agg [.int .i64 (kw a b c d).1,.int .i64 (kw a b c d).2.1],.int .i64 (kw a b c d).2.2]):=by
 refine qEG qe func70 rfl (by kernel_rfl) ?_;have hg:0<Nat.gcd a d:=qBU _ h1;have hh:0<Nat.gcd c b:=qBU _ h0;have q1:=qs6 a _ hg (by omega);have q2:=qs6 c _ hh (by omega);have q3:=qs6 b _ hh (by omega);have q4:=qs6 d _ hg (by omega);have l1:a/Nat.gcd a d<=a:=qBy _ _;have l2:c/Nat.gcd c b<=c:=qBy _ _;have l3:b/Nat.gcd c b<=b:=qBy _ _;have l4:d/Nat.gcd a d<=d:=qBy _ _;have hcop:=JW h0 h1 hab hcd;have p3:0<b/Nat.gcd c b:=qDr (qCG h0 (qCw _ _)) hh;have p4:0<d/Nat.gcd a d:=qDr (qCG h1 (qCw _ _)) hg;have g1:=qeb d a (by omega) (by omega);have g2:=qeb b c (by omega) (by omega);unfold kw;unfold qrf qrg at *;generalize Nat.gcd a d=g at *;generalize Nat.gcd c b=h at *;generalize a/g=A at *;generalize c/h=C at *;generalize b/h=B at *;generalize d/g=D at *;have hD:0<B*D:=qDs p3 p4;generalize hN:A*C=N at *;generalize hM:B*D=M at *;obtain⟨nh,nl,hn1,hn2⟩:∃nh nl,N=18446744073709551616*nh+nl/\nl<18446744073709551616:=⟨N/18446744073709551616,N%18446744073709551616,by omega,by omega⟩;obtain⟨mh,ml,hm1,hm2⟩:∃mh ml,M=18446744073709551616*mh+ml/\ml<18446744073709551616:=⟨M/18446744073709551616,M%18446744073709551616,by omega,by omega⟩;have m1:=qcv A C nh nl (by omega) (by omega) (by rw[hN];exact hn1) hn2;have m2:=qcv B D mh ml (by omega) (by omega) (by rw[hM];exact hm1) hm2;simp[-zw];refine qEJ g1 (by simp) ?_;simp[-zw];refine qEJ g2 (by simp) ?_;simp[-zw,q1,q2];refine qEJ m1 (by simp) ?_;simp[-zw,q3,q4];refine qEJ m2 (by simp) ?_;by_cases n0:nh=0
 . by_cases n1:mh=0
   . subst n0 n1;have e1:N=nl:=(by omega);have e2:M=ml:=(by omega);subst e1 e2;have hre:=Vi N M hn2 hm2 hD;rw[hcop,qEf,qEf]at hre;have hra:=qpi N M hn2 hm2;generalize qhz N M=rs at *;simp;refine qEJ hre (by simp) ?_;simp;refine qEJ hra (by simp) ?_;simp
   . have hr:qhz N M=(0,0,3):=(by unfold qhz;rw[if_neg (by omega)]);simp[hr,n0,n1]
 have hr:qhz N M=(0,0,3):=by unfold qhz;rw[if_neg (by omega)]
 simp[hr,n0]
def qxO(a b c d:Nat)(ha:a<9223372036854775808)(hb:b<9223372036854775808)(h0:0<b)(hab:Nat.gcd a b=1)(hc:c<9223372036854775808)(hd:d<9223372036854775808)(h1:0<d)(hcd:Nat.gcd c d=1) :
 Pure prog GG 39 [.agg [.int .i64 a,.int .i64 b],.agg [.int .i64 c,.int .i64 d]] (.tup [.agg [.int .i64 (kw a b c d).1,.int .i64 (kw a b c d).2.1],.int .i64 (kw a b c d).2.2]):=by
 refine qEG qe func39 rfl (by kernel_rfl) ?_;simp;refine qEJ (qsK a b c d ha hb h0 hab hc hd h1 hcd) (by simp) ?_;simp;refine qEJ (qai a b ha hb) (by simp) ?_;simp;refine qEJ (qai c d hc hd) (by simp) ?_;simp;refine qEJ (qhD a b c d ha hb h0 hab hc hd h1 hcd) (by simp) ?_;simp
def qgS(p)(h:RnH p)(hl12:qk p=0->(NG p).flatten.length<=12)(gi a k) :
 Pure prog GG 10 [.agg (qt p),.int .i64 gi,.sl 1 (a.map qh) .none,.int .i64 k] (.tup [.sl 1 ((yE p gi a k).1.map qh) .none,.int .i64 (yE p gi a k).2]):=by
 refine Pure.ofA (qlZ p h hl12 gi (H:=[]) (.inl ⟨.none,rfl⟩) k []) ?_;rintro v U' ⟨_,w,b,rfl,hr⟩;obtain⟨h1,h2,h3⟩:=hr.frz 6;exact wy h1 h2 h3
def wb(p:Problem)(gi:Nat)(a:List Int):Nat:=((NG p).getD gi []).foldl (fun n i=>sat (n*wtP p i (aN a i))) 1
def qrk:List (Nat×Sch×List Nat):=[(5,.step 0 [12,11] (.step 1 [12,11,10,4,3,2] (.step 2 [12,11,10,4,3] (.step 3 [12,11,10,4] (.step 4 [12,11,10] (.step 5 [12,11,10] (.step 6 [12,11,10,9,8] (.step 7 [12,11,10,9,8] (.step 8 [12,11,10,9] (.step 9 [12,11,10] (.step 10 [12,11] (.step 11 [12] (.step 12 [] (.done))))))))))))),[10])]
def qjD{s d}(h:SpV s d){gi}(hgi:gi<(NG s.p).length){r a H}(hao:AOk s.p a)(hs:SpOk s H)(ha:AsR r a H)(T) :
 qg prog GG 38 [.ptr s.S 0,.int .i64 gi,r] ⟨H,T⟩ (fun v U'=>v=.int .i64 (wb s.p gi a:Nat)/\KpL [] H U'.H):=by
 refine qEH ⟨false,qrk,[],[]⟩ qe func38 rfl (by kernel_rfl) ?_;have hS:=hs.c;have hG:=V0 h.vp;obtain⟨g,hg⟩:∃g,(NG s.p)[gi]?=some g:=⟨_,qAo hgi⟩;have hl:=(JM h.vp h.vq.vars).1 g (qAn hg);simp only[spE,qt,qAL,qAK,hG]at hS;unfold wb;rw[show(NG s.p).getD gi []=g by simp[qAx,hg]];simp[hS,hg,yC];refine qEZ g (fun dn ev U=>ev 0=.ptr s.S 0/\ev 2=r/\ev 7=.int .i64 (dn.foldl (fun n i=>sat (n*wtP s.p i (aN a i))) 1:Nat)/\ev 17=.sl 1 (g.map zL) .none/\ev 18=.int .i64 g.length/\ev 19=.int .i64 dn.length/\KpL [] H U.H) ?_ ?_ ?_
 . exact⟨by simp,by simp,by simp,by simp,by simp,by simp,qFf⟩
 . rintro dn i rest ev ⟨H1,T1⟩ R hR hdl hx hlt ⟨e0,e2,e7,e17,e18,e19,hk⟩;obtain⟨v,l,hv,hw0,hw8,hll,hl20,hwn⟩:=(h.gr fun i hi=>qAX.2 ⟨g,qAn hg,hi⟩) i (qAn hx);obtain⟨x,hax,hxb⟩:=hao i ((fun i hi=>qAX.2 ⟨g,qAn hg,hi⟩) i (qAn hx));have hs1:=hs.keep hk (by simp) (by simp) (by simp);have hS1:=hs1.c;simp only[spE,qt,qAL,qAK,hG]at hS1;obtain⟨u,hu1,hu2⟩:=(ha.keep hk (by simp)).at0 hax;have hdw:=wr (n:=(dn.length:Int)+1) (by omega) (by omega);obtain⟨o,ho⟩:∃o,(z8 s.p.vars.length s.p.dists)[i]?=some o:=⟨_,qAo (by rw[j8];exact(qAm.1 hv).1)⟩;have hweigh:=V4 s.p hs1.w ho (fun w hw=>hwn w (by rw[ho,hw])) (x:Int) T1;rw[<- show wtP s.p i x=wtO o (x:Int) by simp[wtP,qAx,ho]]at hweigh;have hwle:=qfc s.p i x;have haN:aN a i=x:=(by unfold aN;rw[qAx,hax];simp);have hsnoc:(dn++[i]).foldl (fun n i=>sat (n*wtP s.p i (aN a i))) 1=sat (dn.foldl (fun n i=>sat (n*wtP s.p i (aN a i))) 1*wtP s.p i x):=(by rw[qBj,<- haN];rfl);have hacc:dn.foldl (fun n i=>sat (n*wtP s.p i (aN a i))) 1<=lim:=by
    have:∀(l:List Nat) (n:Nat),n<=lim->l.foldl (fun n i=>sat (n*wtP s.p i (aN a i))) n<=lim:=by
     intro l
     induction l with
     |nil=>intro n hn;exact hn
     |cons y l ih=>intro n hn;rw[qA1];exact ih _ (Ke _)
    exact this dn 1 (by decide)
   generalize dn.foldl (fun n i=>sat (n*wtP s.p i (aN a i))) 1=acc at *;generalize wtP s.p i x=wx at *;have ht:=qae acc wx hacc hwle;simp[-zE,-kx,e17,e18,e19,show(dn.length:Int)<g.length by omega,show zE (Dof prog) 28 (.sl 1 (g.map zL) .none) (.int .i64 (dn.length:Nat))=some (.rptr [.int .i64 i]) by simp[-getElem?_pos,hx,zL],show ∀U,kx (Dof prog) U 3 (.rptr [.int .i64 (i:Int)])=some (.int .i64 i) from fun U=>by simp];rw[qR rfl];simp[-zE,-kx,ze,show kx (Dof prog) ⟨H1,T1⟩ 65 (.ptr s.S 10)=some (.fn 75 [] [.ptr s.L 0]) by simp[-getElem?_pos,hS1],e0,e2,e7,hu1,hu2];refine qEM hweigh ?_;rintro w U ⟨rfl,rfl⟩;simp;refine qEJ ht (by simp) ?_;simp[e19,hdw];exact hR _ _ ⟨by simp[e0],by simp[e2],by simp[hsnoc],by simp[e17],by simp[e18],by simp,hk⟩
 rintro ev ⟨H1,T1⟩ ⟨e0,e2,e7,e17,e18,e19,hk⟩;simp[e7,e18,e19];exact hk
noncomputable def qcd(p:Problem)(a:List Int):List Nat->Nat->Nat->Nat×Nat×Int
 |[],n,d=>(n,d,0)
 | gi::rest,n,d=>
  if(JQ p gi a).2≠0 then(0,0,(JQ p gi a).2)
  else if(kw n d (kh (wb p gi a) (JQ p gi a).1.toNat).1 (kh (wb p gi a) (JQ p gi a).1.toNat).2).2.2≠0 then(0,0,3)
  else qcd p a rest (kw n d (kh (wb p gi a) (JQ p gi a).1.toNat).1 (kh (wb p gi a) (JQ p gi a).1.toNat).2).1 (kw n d (kh (wb p gi a) (JQ p gi a).1.toNat).1 (kh (wb p gi a) (JQ p gi a).1.toNat).2).2.1
noncomputable def WK(p:Problem)(a:List Int):Nat×Nat×Int :=
 if(qE p).2≠0 then(0,0,(qE p).2) else if qC p.vars a=false then(0,0,1) else if(qE p).1.all (kc p a)=false then(0,1,0)
 else qcd p a (List.range (NG p).length) 1 1
structure FrOk(n d):Prop where
 nl:n<9223372036854775808
 dl:d<9223372036854775808
 pos:0<d
 cop:Nat.gcd n d=1
def qrL{a b}(ha:a<9223372036854775808)(hb:b<9223372036854775808)(h0:0<b):FrOk (kh a b).1 (kh a b).2:=by
 have hg:0<Nat.gcd a b:=qBU _ h0;exact⟨qBZ (qBy _ _) ha,qBZ (qBy _ _) hb,qDr (qCG h0 (qCw _ _)) hg,qCY hg⟩
def quy{a b c d}(h:FrOk a b)(g:FrOk c d)(he:(kw a b c d).2.2=0):FrOk (kw a b c d).1 (kw a b c d).2.1:=by
 have hc:=JW h.pos g.pos h.cop g.cop;unfold kw qhz at *;split at he
 . rename_i hlt;rw[if_pos hlt];exact⟨hlt.1,hlt.2,(qDs (qDr (qCG h.pos (qCw _ _)) (qBU _ h.pos)) (qDr (qCG g.pos (qCw _ _)) (qBU _ g.pos))),hc⟩
 cases he
def qxN(a b c d):(kw a b c d).2.2≠0->(kw a b c d).2.2=3:=by
 unfold kw qhz;split<;>simp
def qmV(p gi a):wb p gi a<=lim:=by
 have:∀(l:List Nat) (n:Nat),n<=lim->l.foldl (fun n i=>sat (n*wtP p i (aN a i))) n<=lim:=by
  intro l
  induction l with
  |nil=>intro n hn;exact hn
  |cons y l ih=>intro n hn;rw[qA1];exact ih _ (Ke _)
 exact this _ 1 (by decide)
def PrQ(o:Nat×Nat×Int)(H:List Blk)(v:AV)(U':St):Prop:=v=.tup [.agg [.int .i64 (o.1:Nat),.int .i64 (o.2.1:Nat)],.int .i64 o.2.2]/\KpL [] H U'.H
def qsY(p)(h:RnH p)(a)(haf:Fits a)(H T) :
 qg prog GG 20 [.agg (qt p),.sl 1 (a.map qh) .none] ⟨H,T⟩ (PrQ (WK p a) H):=by
 refine qEI qe func20 rfl (by kernel_rfl) ?_;have hop:=qfT p h.q h.v20 h.bits h.dl h.sl h.wl (H++[.cells (qt p),.cells [.int .i64 0,.int .i64 0]]) T;obtain⟨res,hres⟩:∃res,res=WK p a:=⟨_,rfl⟩;rw[<- hres];unfold WK at hres;simp only[qt]at hop;simp;refine qEM hop ?_;rintro v ⟨H1,T1⟩ ⟨hk1,hr⟩;dsimp only at hk1;have b0:=hk1.2 _ _ lk0 (by simp);have b1:=hk1.2 _ _ lk1 (by simp);have b1l:=(qAm.1 b1).1;have hkH:=qFh.trans hk1
 -- what is returned
 have out:∀(H2:List Blk) (T2:List (Option Nat)) (n d:Nat) (e:Int),res=(n,d,e)->KpL [] H H2->PrQ res H (.tup [.agg [.int .i64 n,.int .i64 d],.int .i64 e]) ⟨H2.set (H.length+1) (.cells [.int .i64 n,.int .i64 d]),T2⟩:=fun H2 T2 n d e he hk=>by
  rw[he];exact⟨rfl,hk.setF (by omega)⟩
 rcases hr with⟨he,rfl⟩|⟨he,s,d,rfl,hS,hL,hLL,hsp,hsR,hso,hsv,hroot⟩
 . rw[if_pos he]at hres;simp[-getElem?_pos,he,b1,b1l];exact out _ _ 0 0 _ hres hkH
 rw[if_neg (by simp[he])]at hres;have hR:SpR p s d:=⟨hsp,hsR,hsv,hroot⟩;have hw:∀v∈s.p.vars,0<=v.width/\v.width<=8:=fun v hv=>by have:=zd (z0 hsv.vp v hv);omega
 have has:=qdj hso hw hsv.vq.vars (r:=.sl 1 (a.map qh) .none) (a:=a) (.inl ⟨.none,rfl⟩) T1;have hv:=hsv.vp;rw[hsp]at has hv;simp;refine qEM has ?_;rintro v ⟨H2,T2⟩ ⟨rfl,hk2⟩;dsimp only at hk2;have hkH2:=hkH.trans hk2;have b1':=hk2.2 _ _ b1 (by simp);have b1l':=(qAm.1 b1').1
 cases hA:qC p.vars a with
 | false=>
  rw[if_pos hA]at hres;simp[-getElem?_pos,b1',b1l',unA];exact out _ _ 0 0 _ hres hkH2
 | true=>
  rw[if_neg (by simp[hA])]at hres;have hso2:=hso.keep hk2 (by simp) (by simp) (by simp);have hsl:=qfs (s:=s) (hsp▸h.q) hso2 hsv.rl (r:=.sl 1 (a.map qh) .none) haf rfl (fun H' _=>by rw[qA (by simp)];exact qEQ _) (fun e he'=>(hsv.rk e he').2) T2;rw[hsR,hsp]at hsl;simp[unA];refine qEM hsl ?_;rintro v ⟨H3,T3⟩ ⟨rfl,hk3⟩;dsimp only at hk3;have hkH3:=hkH2.trans hk3;have c1:=hk3.2 _ _ b1' (by simp);have c1l:=(qAm.1 c1).1
  cases hB:(qE p).1.all (kc p a) with
  | false=>
   rw[if_pos hB]at hres;simp[-getElem?_pos,c1,c1l,unA];exact out _ _ 0 1 _ hres hkH3
  | true=>
   rw[if_neg (by simp[hB])]at hres;have c0:=hk3.2 _ _ (hk2.2 _ _ b0 (by simp)) (by simp);have hG:=V0 hv;have hng:=JM hv h.q.vars;simp only[hG]at c0;have c0':=qd c0;simp[unA,c0'];refine kf (NG p).length (fun k ev U=>ev 1=.sl 1 (a.map qh) .none/\ev 4=.ptr (H.length+1) 0/\ev 6=.ptr s.S 0/\ev 8=.ptr H3.length 0/\ev 38=.int .i64 (NG p).length/\ev 39=.int .i64 k/\KpL [] H U.H/\SpOk s U.H/\U.H[H.length+1]?=some (.cells [.int .i64 0,.int .i64 0]) /\
    ∃n d:Nat,U.H[H3.length]?=some (.cells [.int .i64 n,.int .i64 d])/\FrOk n d/\res=qcd p a (List.range' k ((NG p).length-k)) n d) ?_ ?_ ?_
   . exact⟨by simp,by simp,by simp,by simp,by simp,by simp,hkH3.trans qFh,hso2.keep (hk3.trans qFh) (by simp) (by simp) (by simp),qd c1 _,1,1,lk0,⟨by decide,by decide,by decide,by decide⟩,by rw[hres,qBI];simp⟩
   . rintro k ev ⟨H4,T4⟩ R hR' hkn ⟨e1,e4,e6,e8,e38,e39,hk4,hso4,d1,n,dd,d8,hfr,hpr⟩;dsimp only at hk4 hso4 d1 d8;have hwk:=wr (n:=(k:Int)+1) (by omega) (by omega);have hrg:List.range' k ((NG p).length-k)=k::List.range' (k+1) ((NG p).length-(k+1)):=by
      obtain⟨m,hm⟩:∃m,(NG p).length-k=m+1:=⟨(NG p).length-k-1,by omega⟩;rw[hm,qB6,show(NG p).length-(k+1)=m by omega]
     rw[hrg]at hpr;unfold qcd at hpr;have ht:=qdT hsv (k:Int) hso4 (r:=.sl 1 (a.map qh) .none) (a:=a) (.inl ⟨.none,rfl⟩) T4;rw[hR.tot]at ht;have hok:=qad (p:=p) (gi:=(k:Int)) (a:=a);have hpl:=qmV p k a;rw[qAS]at hok;have hpd:=fun H T (hs:SpOk s H)=>qjD hsv (gi:=k) (by rw[hsp];exact hkn) (r:=.sl 1 (a.map qh) .none) (a:=a) (by rw[hsp];exact Zo hv hA) hs (.inl ⟨.none,rfl⟩) T
     rw[hsp]at hpd;generalize wb p k a=pr at *;generalize JQ p (k:Int) a=tt at *;obtain⟨t,e⟩:=tt;dsimp only at hpr ht hok;simp[e1,e6,e38,e39,show(k:Int)<(NG p).length by omega];refine qEM ht ?_;rintro v ⟨H5,T5⟩ ⟨rfl,hk5⟩;dsimp only at hk5;have f1:=hk5.2 _ _ d1 (by simp);have f1l:=(qAm.1 f1).1;by_cases he0:e=0
     case neg=>
      rw[if_pos he0]at hpr;simp[-getElem?_pos,e1,e4,e6,he0,f1,f1l];exact out _ _ 0 0 _ hpr (hk4.trans hk5)
     subst he0;rw[if_neg (by simp)]at hpr;obtain⟨g0,g1,-,n1,n2⟩:=hok rfl;obtain⟨t,rfl⟩:=qAH (by omega:0<=t);rw[qAS]at hpr;unfold lim at n2 hpl;have hso5:=hso4.keep hk5 (by simp) (by simp) (by simp);have hmk:=qpx pr t (by omega) (by omega) (by omega);have hmf:=qrL (a:=pr) (b:=t) (by omega) (by omega) (by omega);generalize kh pr t=mk at *;obtain⟨x,y⟩:=mk;dsimp only at hpr hmk hmf;have hml:=qxO n dd x y hfr.nl hfr.dl hfr.pos hfr.cop hmf.nl hmf.dl hmf.pos hmf.cop;have hmo:=quy hfr hmf;have hme:=qxN n dd x y;generalize kw n dd x y=mm at *;obtain⟨u,w,z⟩:=mm;dsimp only at hpr hml hmo hme;simp[e1,e6,e39];refine qEM (hpd _ _ hso5) ?_;rintro v ⟨H6,T6⟩ ⟨rfl,hk6⟩;dsimp only at hk6;have hkk6:=(hk4.trans hk5).trans hk6;have g1':=hk6.2 _ _ f1 (by simp);have g8:=hk6.2 _ _ (hk5.2 _ _ d8 (by simp)) (by simp);have g1l:=(qAm.1 g1').1;have g8l:=(qAm.1 g8).1;have g8a:=qd g8;have g1a:=qd g1';simp[e39];refine qEJ hmk (by simp) ?_;simp[e8,g8a];refine qEJ hml (by simp) ?_;have hne:H3.length≠H.length+1:=(by have:=hk3.1;omega);have q1:∀X Y,((H6++[X]).set H3.length Y)[H.length+1]?=some (.cells [.int .i64 0,.int .i64 0]):=fun X Y=>by rw[qAp hne];exact g1a _
     have hl3:∀X:Blk,H3.length<(H6++[X]).length:=fun X=>by simp;omega
     have hl1:∀X:Blk,H.length+1<(H6++[X]).length:=fun X=>by simp;omega
     have hkx:∀X Y,KpL [] H ((H6++[X]).set H3.length Y):=fun X Y=>KpL.setF (hkk6.trans qFh) (by have:=hkH3.1;omega)
     by_cases hz:z=0
     . subst hz;rw[if_neg (by simp)]at hpr;simp[e8,e39,g8a,hwk];have hlt3:=(hso2.keep hk3 (by simp) (by simp) (by simp)).lt;have hso7:SpOk s ((H6++[Blk.cells [.int .i64 x,.int .i64 y]]).set H3.length (Blk.cells [.int .i64 u,.int .i64 w])):=hso5.keep (bs:=[H3.length]) (qFg (hk6.sub (by simp)) (qFg qFh (qFi (by simp)))) (by simp;omega) (by simp;omega) (by simp;omega);exact hR' _ _ ⟨by simp[e1],by simp[e4],by simp[e6],by simp[e8],by simp[e38],by simp,hkx _ _,hso7,q1 _ _,u,w,qAt (hl3 _),hmo rfl,hpr⟩
     rw[if_pos hz]at hpr;have:=hme hz;subst this;have q2:∀X Y Z,(((H6++[X]).set H3.length Y).set (H.length+1) Z)[H.length+1]?=some Z:=fun X Y Z=>qAt (by rw[qBK];exact hl1 X)
     simp[e4,e8,g8a,q1,q2];exact out _ _ 0 0 _ hpr (hkx _ _)
   rintro ev ⟨H4,T4⟩ ⟨e1,e4,e6,e8,e38,e39,hk4,hso4,d1,n,dd,d8,hfr,hpr⟩;dsimp only at hk4 hso4 d1 d8;have d1l:=(qAm.1 d1).1;have:res=(n,dd,0):=by rw[hpr,qBm];rfl
   simp[-getElem?_pos,e4,e8,e38,e39,d8,d1,d1l];exact out _ _ _ _ _ this hk4
def qqh(p)(h:RnH p)(a)(haf:Fits a):Pure prog GG 20 [.agg (qt p),.sl 1 (a.map qh) .none] (.tup [.agg [.int .i64 ((WK p a).1:Nat),.int .i64 ((WK p a).2.1:Nat)],.int .i64 (WK p a).2.2]):=by
 refine Pure.ofA (qsY p h a haf [] []) ?_;rintro v U' ⟨rfl,-⟩;rw[qA (by simp)];exact⟨by simp,qEQ _⟩
def vm:Ex:=.mk 17 0 [] [wG [97],wG [98]]
def p2(b:Bool):Problem:={ vars:=[⟨[97],2,1,0⟩,⟨[98],2,1,0⟩],hard:=[vm],soft:=[],dists:=[],groups:=if b then [[0],[1]] else [[0,1]] }
def V9(b):qk (p2 b)=0:=by
 have hv:k0 [97]=true:=by unfold k0;rw[show z6 [97]=true by kernel_rfl];rfl
 have hv2:k0 [98]=true:=by unfold k0;rw[show z6 [98]=true by kernel_rfl];rfl
 have hE:jW ⟨[97],2,1,0⟩=0:=by
  unfold jW;rw[hv];simp
 have hE2:jW ⟨[98],2,1,0⟩=0:=by
  unfold jW;rw[hv2];simp
 have hg:yb (p2 b).vars (p2 b).groups:=by
  cases b
  . refine⟨by simp[p2],by simp[p2,yG],by simp[p2],fun i hi _=>?_⟩;simp[p2]at hi⊢;omega
  refine⟨by simp[p2],by simp[p2,yG],by simp[p2],fun i hi _=>?_⟩;simp[p2]at hi⊢;omega
 unfold qk;have h1:jd (p2 b).vars=0:=by
  unfold jd;simp[p2,qU,hE,hE2,qpW,Qm,Qf,WD,show kW [97]=none from KC (by decide),show kW [98]=none from KC (by decide),yu];intro x hx;have:x=0\/x=1:=by omega
  rcases this with rfl|rfl<;>rfl
 have h3:qU (zy (p2 b).vars) ((p2 b).hard++(p2 b).soft)=0:=by
  show qU (zy (p2 b).vars) [vm]=0;simp[qU,show zy (p2 b).vars vm=0 by kernel_rfl]
 rw[h1,h3];unfold zH;rw[if_pos hg];simp[p2,qU,yr]
def w6(b):qE (p2 b)=([vm],0):=by
 have:=qhu (V9 b) rfl rfl (by cases b<;>kernel_rfl);exact this
def qtX:ju (p2 true)=(6,0):=by
 unfold ju;rw[w6]
 kernel_rfl
def qtR:jX (p2 true) 1 [0,0]=(3,0):=by
 unfold jX;rw[qo6,w6]
 kernel_rfl
def qvl:yE (p2 false) 0 [0,0] 5=([2,3],0):=by
 unfold yE jX;rw[qo6,qlg,w6]
 kernel_rfl
def qgk{b a}(h:jw (yg (p2 b).vars a) vm≠0)(ha:qC (p2 b).vars a=true):([vm]:List Ex).all (kc (p2 b) a)=true:=by
 simp only[qBH,qEx,qCo];exact qgy (V9 b) h ha
def qee{p R}(h:(qE p).1=R)(a gi rest n d):qcd p a (gi::rest) n d =
 if(Yd p R gi a).2≠0 then(0,0,(Yd p R gi a).2)
 else if(kw n d (kh (wb p gi a) (Yd p R gi a).1.toNat).1 (kh (wb p gi a) (Yd p R gi a).1.toNat).2).2.2≠0 then(0,0,3)
 else qcd p a rest (kw n d (kh (wb p gi a) (Yd p R gi a).1.toNat).1 (kh (wb p gi a) (Yd p R gi a).1.toNat).2).1 (kw n d (kh (wb p gi a) (Yd p R gi a).1.toNat).1 (kh (wb p gi a) (Yd p R gi a).1.toNat).2).2.1:=by
 subst h;rfl
def qrh:WK (p2 true) [0,1]=(1,9,0):=by
 have hr:(qE (p2 true)).1=[vm]:=by rw[w6]
 unfold WK;rw[w6,if_neg (by simp),if_neg (by rw[show qC (p2 true).vars [0,1]=true by kernel_rfl];simp),if_neg (by rw[qgk (by rw[show jw (yg (p2 true).vars [0,1]) vm=1 by kernel_rfl];decide) (by kernel_rfl)];simp)];show qcd (p2 true) [0,1] [0,1] 1 1=_;rw[qee hr,show Yd (p2 true) [vm] ((0:Nat):Int) [0,1]=(3,0) by kernel_rfl,if_neg (by simp),show((3:Int),(0:Int)).1.toNat=3 from rfl,show kw 1 1 (kh (wb (p2 true) 0 [0,1]) 3).1 (kh (wb (p2 true) 0 [0,1]) 3).2=(1,3,0) by kernel_rfl,if_neg (by simp),qee hr,show Yd (p2 true) [vm] ((1:Nat):Int) [0,1]=(3,0) by kernel_rfl,if_neg (by simp),show((3:Int),(0:Int)).1.toNat=3 from rfl,show kw 1 3 (kh (wb (p2 true) 1 [0,1]) 3).1 (kh (wb (p2 true) 1 [0,1]) 3).2=(1,9,0) by kernel_rfl,if_neg (by simp)];rfl
def qmW:WK (p2 false) [2,3]=(1,6,0):=by
 have h1:Yd (p2 false) [vm] ((0:Nat):Int) [2,3]=(6,0):=by kernel_rfl
 have hr:(qE (p2 false)).1=[vm]:=by rw[w6]
 have m1:kw 1 1 (kh (wb (p2 false) 0 [2,3]) 6).1 (kh (wb (p2 false) 0 [2,3]) 6).2=(1,6,0):=by kernel_rfl
 unfold WK;rw[w6,if_neg (by simp),if_neg (by rw[show qC (p2 false).vars [2,3]=true by kernel_rfl];simp),if_neg (by rw[qgk (by rw[show jw (yg (p2 false).vars [2,3]) vm=1 by kernel_rfl];decide) (by kernel_rfl)];simp)];show qcd (p2 false) [2,3] [0] 1 1=_;rw[qee hr,h1,if_neg (by simp),show((6:Int),(0:Int)).1.toNat=6 from rfl,m1,if_neg (by simp)];rfl
def qpp(b):Pure prog GG 19 [.bool b] (.agg (qt (p2 b))):=by
 refine qEF o0 false qe func19 rfl (by kernel_rfl) ?_;cases b
 . simp[-getElem?_pos,zs,zW,qM,qf,qm];simp[p2,vm,wG,qp,yh,zn,Leq,qJ,qx,qh,AV.atom]
 simp[-getElem?_pos,zs,zW,qM,qf,qm];simp[p2,vm,wG,qp,yh,zn,Leq,qJ,qx,qh,AV.atom]
def qb9(b):RnH (p2 b):=by
 refine⟨⟨by simp[p2],by simp[p2,Fits],by simp[p2],by simp[p2],?_,by simp[p2,Fits],by simp[p2],by cases b<;>simp[p2,Fits],by cases b<;>simp[p2,Fits]⟩,by simp[p2],?_,by simp[p2],by simp[p2],by simp[p2]⟩
 . intro e he;have:e=vm:=by simpa[p2] using he
   subst this;refine⟨?_,?_,?_⟩
   . intro x hx;have:x=vm\/x=wG [97]\/x=wG [98]:=by simpa[vm,pre,wm,wG] using hx
     rcases this with rfl|rfl|rfl<;>simp[vm,wG,Fits,Ex.args,Ex.name]
   . decide
   decide
 unfold qK;rw[if_neg (by simp[V9])];cases b<;>decide
def V3:Pure prog GG 6 [] (.bool true):=by
 refine qEG qe func6 rfl (by kernel_rfl) ?_;have hl:∀b,qk (p2 b)=0->(NG (p2 b)).flatten.length<=12:=fun b _=>by cases b<;>decide
 have h1:=WB (p2 true) (qb9 true);have h2:=qlS (p2 true) (qb9 true) 1 [0,0];have h3:=qqh (p2 true) (qb9 true) [0,1] (by simp[Fits]);have h4:=qqh (p2 false) (qb9 false) [2,3] (by simp[Fits]);have h5:=qgS (p2 false) (qb9 false) (hl false) 0 [0,0] 5;rw[qtX]at h1;rw[qtR]at h2;rw[qrh]at h3;rw[qmW]at h4;rw[qvl]at h5;have q1:=qpp true;have q2:=qpp false;simp only[qt,qAz,qAZ,qh]at h1 h2 h3 h4 h5 q1 q2;simp[-getElem?_pos];refine qEJ q1 (by simp) ?_;simp[-getElem?_pos];refine qEJ h1 (by simp) ?_;simp[-getElem?_pos];refine qEJ q1 (by simp) ?_;simp[-getElem?_pos,qf,qm];refine qb.less h2 (by simp) (by simp[zn,Leq]) ?_;simp[-getElem?_pos];refine qEJ q1 (by simp) ?_;simp[-getElem?_pos,qf,qm];refine qb.less h3 (by simp) (by simp[zn,Leq]) ?_;simp[-getElem?_pos];refine qEJ q2 (by simp) ?_;simp[-getElem?_pos,qf,qm];refine qb.less h4 (by simp) (by simp[zn,Leq]) ?_;simp[-getElem?_pos];refine qEJ q2 (by simp) ?_;simp[-getElem?_pos,qf,qm];refine qb.less h5 (by simp) (by simp[zn,Leq]) ?_;simp[-getElem?_pos,qpR]
noncomputable def qn7(p:Problem)(b:Int):Bool:=jR p&&decide (kl p.vars (qK p)<=b)
def qyr(p)(h:VM p)(b):Pure prog GG 5 [.agg (qt p),.int .i64 b] (.bool (qn7 p b)):=by
 refine qEG qe func5 rfl (by kernel_rfl) ?_;have hs:=qqR p h.h.exprs;obtain⟨res,hres⟩:∃res,res=qn7 p b:=⟨_,rfl⟩;rw[<- hres];unfold qn7 at hres;simp only[qt]at hs;simp[-getElem?_pos];refine qEJ hs (by simp) ?_
 cases hsm:jR p with
 | false=>
  rw[hsm,qCA]at hres;subst hres;simp[-getElem?_pos]
 | true=>
  have hb:=qvo p (h.h.small hsm);rw[hsm,qBC]at hres;simp only[qt]at hb;simp[-getElem?_pos];refine qEJ hb (by simp) ?_;simp[-getElem?_pos];exact hres.symm
def qkN{p}(h:VM p){b}(hb:b<=18)(hf:qn7 p b=true):RnH p/\VP p:=by
 unfold qn7 at hf;simp only[qAr,decide_eq_true_eq]at hf;have hvp:=h.h.small hf.1;have hs:=hf.1;simp only[jR,qAr,qBO,qCI,decide_eq_false_iff_not,qAv,decide_eq_true_eq]at hs;obtain⟨⟨⟨⟨⟨⟨⟨⟨a1,a2⟩,a3⟩,a4⟩,a5⟩,b1⟩,b2⟩,b3⟩,b4⟩:=hs;exact⟨⟨hvp.q,by omega,by omega,by omega,by omega,fun d hd=>by have:=b3 d hd;omega⟩,hvp⟩
def qgW{ds v x}:∀{acc n:Int},0<=acc->acc<=1099511627776->YR ds v x (some acc)=some n->0<=n/\n<=1099511627776:=by
 induction ds with
 |nil=>intro acc n h0 h1 h;cases h;exact⟨h0,h1⟩
 | cons d ds ih=>
  intro acc n h0 h1 h;change YR ds v x (qiv v x acc d)=some n at h
  cases hw:qiv v x acc d with
  |none=>rw[hw,Zt]at h;cases h
  | some m=>
   rw[hw]at h;have:=WV h0 h1 hw;exact ih this.1 this.2 h
def qgX{ds}{a:List Int}:∀{g:List Int}{acc n:Int},0<=acc->acc<=1099511627776->g.foldl (fun s v=>YR ds v (a.getD v.toNat 0) s) (some acc)=some n->0<=n/\n<=1099511627776:=by
 intro g
 induction g with
 |nil=>intro acc n h0 h1 h;cases h;exact⟨h0,h1⟩
 | cons v g ih=>
  intro acc n h0 h1 h;rw[qA1]at h
  cases hw:YR ds v (a.getD v.toNat 0) (some acc) with
  |none=>rw[hw,Zu]at h;cases h
  | some m=>
   rw[hw]at h;have:=qgW h0 h1 hw;exact ih this.1 this.2 h
def WU{ds a g n}(h:ql9 ds a g=some n):0<=n/\n<=1099511627776:=qgX (by omega) (by omega) h
def qdD(ds:List Dist)(g:List Int):List (List Int)->List Int->Int->Option (List Int×Int)
 |[],out,sum=>some (out,sum)
 | x::r,out,sum=>match ql9 ds x g with
  |none=>none
  |some w=>if 1099511627776-w<sum then none else qdD ds g r (out++[w]) (sum+w)
def qo0(o:Option (List Int×Int)):List Int×Int×Bool:=match o with
 |some q=>(q.1,q.2,true)
 |none=>([],0,false)
def qgY(p:Problem)(i:Nat)(g:List Int)(l:List (List Int))(hgi:p.groups[i]?=some g)(hgl:g.length<=1000000)(hgv:∀x∈l,∀v∈g,0<=v/\v<(x.length:Nat))(hd:p.dists.length<=10000)(hwl:∀d∈p.dists,d.weights.length<=1000)(hl:l.length<=1000000) :
 Pure prog GG 47 [.agg (qt p),.sl 1 (l.map qx) .none,.int .i64 i] (.tup [.sl 1 ((qo0 (qdD p.dists g l [] 0)).1.map qh) .none,.int .i64 (qo0 (qdD p.dists g l [] 0)).2.1,.bool (qo0 (qdD p.dists g l [] 0)).2.2]):=by
 refine qEG qe func47 rfl (by kernel_rfl) ?_;obtain⟨RES,hRES⟩:∃RES,RES=qdD p.dists g l [] 0:=⟨_,rfl⟩;rw[<- hRES];have hw94:=fun x (hx:x∈l)=>qma p i g x hgi hgl (hgv x hx) hd hwl
 simp only[qt]at hw94;simp;refine qEZ l (fun d ev U=>∃out sum,ev 1=.sl 1 (l.map qx) .none/\ev 2=.int .i64 i/\ev 3=.ptr 0 0/\ev 9=QS 1 qh 0 out/\ev 10=.int .i64 sum/\ev 11=.int .i64 d.length/\U=⟨[.cells (qt p)],yI [] out⟩/\0<=sum/\sum<=1099511627776/\out.length=d.length/\RES=qdD p.dists g (l.drop d.length) out sum) ?_ ?_ ?_
 . exact⟨[],0,by simp,by simp,by simp,by simp,by simp,by simp,by simp[qt],by omega,by omega,rfl,by simpa using hRES⟩
 . rintro d x rest ev U R hR hdl hx hlt ⟨out,sum,e1,e2,e3,e9,e10,e11,rfl,s0,s1,ho,hr⟩;have hdw:=wr (n:=(d.length:Int)+1) (by omega) (by omega);have hlt':(d.length:Int)<l.length:=(by omega);have hw:=hw94 x (qAn hx);have hdr:l.drop d.length=x::l.drop (d.length+1):=by
    obtain⟨h1,h2⟩:=qAm.1 hx;rw[qAJ h1,h2]
   rw[hdr]at hr;unfold qdD at hr;have hrange:=fun n h=>WU (ds:=p.dists) (a:=x) (g:=g) (n:=n) h
   generalize ql9 p.dists x g=o at *;have happ:∀(H:List Blk) (s:List Int),s.length<2^30->∀n,qr (Dof prog) ⟨H,yI [] s⟩ 28 (QS 1 qh 0 s) (.sl 1 [[.int .i64 n]] .tight)=some (QS 1 qh 0 (s++[n]),⟨H,yI [] (s++[n])⟩):=fun H s hs n=>
    yU (D:=Dof prog) (sz:=1) (T:=[]) (H:=H) (m:=[n]) (en:=qh) D28 rfl D3 rfl (by decide) rfl (by decide) (by simp only[qAQ];omega) 1 (.inl rfl)
   cases o with
   | none=>
    simp[e1,e2,e3,e11,hlt',hx,qt,qx];refine qEJ (G:=zk GG) hw (by simp) ?_;simp[qo3,unA,hr,qo0]
   | some w=>
    obtain⟨w0,w1⟩:=hrange w rfl;have hws:=wr (n:=(1099511627776:Int)-w) (by omega) (by omega);dsimp only at hr;by_cases hbig:1099511627776-w<sum
    . rw[if_pos hbig]at hr;simp[e1,e2,e3,e11,hlt',hx,qt,qx];refine qEJ (G:=zk GG) hw (by simp) ?_;simp[qo3,unA,e10,hws,hbig,hr,qo0]
    rw[if_neg hbig]at hr;have hwa:=wr (n:=sum+w) (by omega) (by omega);simp[e1,e2,e3,e11,hlt',hx,qt,qx];refine qEJ (G:=zk GG) hw (by simp) ?_;simp[qo3,unA,e9,e10,e11,hws,hbig,qf,qm,happ _ _ (show out.length<2^30 by omega),hwa,hdw];exact hR _ _ ⟨out++[w],sum+w,by simp[e1],by simp[e2],by simp[e3],by simp,by simp,by simp,by simp[qt],by omega,by omega,by simp[ho],by rw[qAq];exact hr⟩
 rintro ev U ⟨out,sum,e1,e2,e3,e9,e10,e11,rfl,s0,s1,ho,hr⟩;have:RES=some (out,sum):=by rw[hr,qBk];rfl
 subst this;simp[-fin,-ky,-vG,e1,e9,e10,e11,qo0]
noncomputable def yR(p:Problem)(gi:Int)(a:List Int):List (List Int)×List Int×Int×Int :=
 if(QV p).2≠0 then([],[],0,(QV p).2)
 else if gi<0\/(p.groups.length:Int)<=gi\/(decide (qk p=0)&&qC p.vars a)=false then([],[],0,1)
 else if jc p.groups gi.toNat (p.groups.getD gi.toNat []) a (QV p).1=[] then([],[],0,11)
 else match qdD p.dists (p.groups.getD gi.toNat []) (jc p.groups gi.toNat (p.groups.getD gi.toNat []) a (QV p).1) [] 0 with
  |none=>([],[],0,3)
  |some q=>(jc p.groups gi.toNat (p.groups.getD gi.toNat []) a (QV p).1,q.1,q.2,0)
def J6{G i g a v l}(h:v∈jc G i g a l):v∈l:=by
 have:∀(l out:List (List Int)),v∈l.foldl (vF G i g a) out->v∈out\/v∈l:=by
  intro l
  induction l with
  |nil=>intro out h;exact .inl h
  | cons x l ih=>
   intro out h;rw[qA1]at h;rcases ih _ h with h|h
   . rcases qbW h with h|h
     . exact .inl h
     . exact .inr (by simp[h])
   exact .inr (by simp[h])
 rcases this l [] h with h|h
 . cases h
 exact h
def J7{G i g a l}:(jc G i g a l).length<=l.length:=by
 have:∀(l out:List (List Int)),(l.foldl (vF G i g a) out).length<=out.length+l.length:=by
  intro l
  induction l with
  |nil=>intro out;simp
  | cons x l ih=>
   intro out;rw[qA1,qAD];have h1:=ih (vF G i g a out x);have h2:=qbX (G:=G) (i:=i) (g:=g) (a:=a) (x:=x) (out:=out);omega
 have:=this l [];unfold jc;simpa using this
def Vj(p)(h:RfH p)(hvp:VP p)(hr:RnH p)(gi a)(haf:Fits a) :
 Pure prog GG 23 [.agg (qt p),.int .i64 gi,.sl 1 (a.map qh) .none] (.tup [.sl 1 ((yR p gi a).1.map qx) .none,.sl 1 ((yR p gi a).2.1.map qh) .none,.int .i64 (yR p gi a).2.2.1,.int .i64 (yR p gi a).2.2.2]):=by
 refine qEG qe func23 rfl (by kernel_rfl) ?_;obtain⟨RES,hRES⟩:∃RES,RES=yR p gi a:=⟨_,rfl⟩;rw[<- hRES];unfold yR at hRES;have ha:=qvC p h hr.bits;have hass:=qhA p a hvp haf;simp only[qt]at ha hass;by_cases he:(QV p).2=0
 case neg=>
  rw[if_pos he]at hRES;simp;refine qEJ (G:=zk GG) ha (by simp) ?_;simp[he,hRES]
 rw[if_neg (fun e=>e he)]at hRES;rw[he]at ha;by_cases h0:gi<0
 . rw[if_pos (.inl h0)]at hRES;simp;refine qEJ (G:=zk GG) ha (by simp) ?_;simp[h0,hRES]
 by_cases h1:(p.groups.length:Int)<=gi
 . rw[if_pos (.inr (.inl h1))]at hRES;simp;refine qEJ (G:=zk GG) ha (by simp) ?_;simp[h0,h1,hRES]
 cases hA:(decide (qk p=0)&&qC p.vars a) with
 | false=>
  rw[if_pos (.inr (.inr hA))]at hRES;rw[hA]at hass;simp;refine qEJ (G:=zk GG) ha (by simp) ?_;simp[h0,h1];refine qEJ (G:=zk GG) hass (by simp) ?_;simp[unA,hRES]
 | true=>
  rw[hA]at hass;have hA':=hA;rw[qAr,decide_eq_true_eq]at hA';obtain⟨hv,has⟩:=hA';rw[if_neg (by rw[hA];simp;omega)]at hRES;obtain⟨g,rfl⟩:=qAH (by omega:0<=gi);rw[qAS]at hRES;obtain⟨G,hG⟩:∃G,p.groups[g]?=some G:=⟨_,qAo (by omega)⟩;rw[show p.groups.getD g []=G by rw[qAx,hG];rfl]at hRES;have hal:=(wV hv has).1;have hvl:=h.vq.vars;have hGm:=qAn hG;have hgall:∀g∈p.groups,g.length<=1000000/\∀v∈g,0<=v/\v<(p.vars.length:Nat):=fun g' hg'=>by
   have hl:=JM hv hvl;have h1:=hl.1 (g'.map Int.toNat) (qAN.2 ⟨g',hg',rfl⟩);rw[qAY]at h1;refine⟨by omega,fun v hv'=>?_⟩;obtain⟨n,w,e1,e2,_⟩:=QZ ((jE hv).2.1 _ (qAX.2 ⟨g',hg',hv'⟩));have:=(qAm.1 e2).1;omega
  have hLl:∀x∈(QV p).1,x.length=p.vars.length:=fun x hx=>by
   unfold QV at hx;split at hx
   . exact(ko.1 (qBu.1 hx).1).len
   cases hx
  have hLn:(QV p).1.length<=1000000:=by
   have h2:=hr.all hv;unfold QV;split
   . exact qBf (qCq _ _) (by omega)
   simp
  have hng:p.groups.length<=10000000:=by
   have:=(JM hv hvl).2;rw[NG,qAY]at this;omega
  have hch:=qig p (QV p).1 g G a hG hLn hng (fun g' hg'=>by rw[hal];exact hgall g' hg') (fun x hx=>by rw[hal];exact hLl x hx);have hwt:=qgY p g G (jc p.groups g G a (QV p).1) hG (hgall G hGm).1 (fun x hx v hv'=>by rw[(fun x hx=>hLl x (J6 hx)) x hx];exact(hgall G hGm).2 v hv') h.dists hr.wl (qBf J7 hLn);simp only[qt]at hch hwt;generalize jc p.groups g G a (QV p).1=C at *;generalize (QV p).1=L at *;simp;refine qEJ (G:=zk GG) ha (by simp) ?_;simp[h0,h1];refine qEJ (G:=zk GG) hass (by simp) ?_;simp[unA];refine qEJ (G:=zk GG) hch (by simp) ?_;by_cases hC:C=[]
  . subst hC;rw[if_pos rfl]at hRES;simp[hRES]
    try simp[Leq,zn]
  rw[if_neg hC]at hRES;simp[hC];refine qEJ (G:=zk GG) hwt (by simp) ?_;generalize qdD p.dists G C [] 0=o at *
  cases o with
  | none=>
   simp[qo0,unA,hRES]
   try simp[Leq,zn]
  | some q=>
   simp[qo0,unA,hRES]
def qqH(p)(h:RfH p)(hvp:VP p)(hr:RnH p)(gi a)(haf:Fits a) :
 Pure prog GG 9 [.agg (qt p),.int .i64 gi,.sl 1 (a.map qh) .none] (.tup [.int .i64 (yR p gi a).2.2.1,.int .i64 (yR p gi a).2.2.2]):=by
 refine qEG qe func9 rfl (by kernel_rfl) ?_;have hp:=Vj p h hvp hr gi a haf;generalize yR p gi a=q at *;simp only[qt]at hp;simp;refine qEJ (G:=zk GG) hp (by simp) ?_;simp
def atW:List Int->Int->Nat
 |[],_=>0
 |w::r,k=>if k<w then 0 else atW r (k-w)+1
def qdw(c:List Int)(G:List Int)(a:List Int):List Int:=G.foldl (fun o v=>o.set v.toNat (c.getD v.toNat 0)) a
noncomputable def QL(p:Problem)(gi:Int)(a:List Int)(k:Int):List Int×Int :=
 if(yR p gi a).2.2.2≠0 then([],(yR p gi a).2.2.2)
 else if k<0\/(yR p gi a).2.2.1<=k then([],12)
 else(qdw ((yR p gi a).1.getD (atW (yR p gi a).2.1 k) []) (p.groups.getD gi.toNat []) a,0)
def qfb{ds g}:∀{l:List (List Int)}{out:List Int}{sum:Int}{q:List Int×Int},qdD ds g l out sum=some q->q.1.length=out.length+l.length/\q.2-q.1.sum=sum-out.sum/\q.2<=max sum 1099511627776/\((∀w∈out,0<=w/\w<=1099511627776)->∀w∈q.1,0<=w/\w<=1099511627776)
 | [],out,sum,q,h=>by
  cases h;exact⟨by simp,by dsimp only,by dsimp only;omega,fun h=>h⟩
 | x::r,out,sum,q,h=>by
  unfold qdD at h
  cases hw:ql9 ds x g with
  |none=>rw[hw]at h;cases h
  | some w=>
   rw[hw]at h;dsimp only at h;have hr:=WU hw;split at h
   . cases h
   obtain⟨h1,h2,h3,h4⟩:=qfb h;refine⟨by rw[h1];simp;omega,by rw[h2,qEa];simp;omega,by omega,fun ho=>h4 fun w' hw'=>?_⟩;rcases qAC.1 hw' with hw'|hw'
   . exact ho _ hw'
   have:w'=w:=by simpa using hw'
   rw[this];exact hr
structure PrepOk(p:Problem)(gi:Nat)(G a:List Int)(C:List (List Int))(W:List Int)(s:Int):Prop where
 v:qk p=0
 g:p.groups[gi]?=some G
 ass:qC p.vars a=true
 all:∀x∈C,x.length=p.vars.length
 len:W.length=C.length
 sum:s=W.sum
 le:s<=1099511627776
 rng:∀w∈W,0<=w/\w<=1099511627776
def qri{p gi a}(h:(yR p gi a).2.2.2=0):0<=gi/\∃G,PrepOk p gi.toNat G a (yR p gi a).1 (yR p gi a).2.1 (yR p gi a).2.2.1/\p.groups.getD gi.toNat []=G:=by
 unfold yR at h⊢;split at h
 . rename_i h1;exact absurd h h1
 rename_i h1;rw[if_neg h1];split at h
 . cases h
 rename_i h2;rw[if_neg h2];split at h
 . cases h
 rename_i h3;rw[if_neg h3];have g1:gi.toNat<p.groups.length:=by
  have:¬(p.groups.length:Int)<=gi:=fun e=>h2 (.inr (.inl e))
  omega
 have hA:(decide (qk p=0)&&qC p.vars a)=true:=by
  cases hA:(decide (qk p=0)&&qC p.vars a) with
  |true=>rfl
  |false=>exact absurd (.inr (.inr hA)) h2
 rw[qAr,decide_eq_true_eq]at hA;have hG:=qAo g1;refine⟨(qEs.1 fun e=>h2 (.inl e)),p.groups[gi.toNat],?_,by rw[qAx,hG];rfl⟩
 cases hw:qdD p.dists (p.groups.getD gi.toNat []) (jc p.groups gi.toNat (p.groups.getD gi.toNat []) a (QV p).1) [] 0 with
 |none=>rw[hw]at h;cases h
 | some q=>
  obtain⟨w1,w2,w3,w4⟩:=qfb hw;refine⟨hA.1,hG,hA.2,fun x hx=>?_,by rw[w1];simp,by simp at w2;dsimp only;omega,by dsimp only;omega,w4 (by simp)⟩;have hx:=J6 hx;unfold QV at hx;split at hx
  . exact(ko.1 (qBu.1 hx).1).len
  cases hx
def qp3:∀{W:List Int}{k:Int},k<W.sum->0<=k->atW W k<W.length
 |[],k,h,h0=>by simp at h;omega
 | w::r,k,h,h0=>by
  unfold atW;rw[qCp]at h;split
  . simp
  have:=qp3 (W:=r) (k:=k-w) (by omega) (by omega);rw[qAD];omega
def Yx(c):∀(G a),(qdw c G a).length=a.length
 |[],a=>rfl
 | v::G,a=>by
  show(qdw c G (a.set v.toNat (c.getD v.toNat 0))).length=_;rw[Yx c G,qBK]
def qmX{p}(hr:RnH p){gi a}:(yR p gi a).1.length<=1000000:=by
 unfold yR;split
 . simp
 split
 . simp
 rename_i h2;split
 . simp
 split
 . simp
 refine qBf J7 ?_;unfold QV;split
 . rename_i he;have hv:=(Zd hr.q hr.dl hr.sl he).1;exact qBf (qCq _ _) (by have:=hr.all hv;omega)
 simp
def qje(c d v a):qdw c (d++[v]) a=(qdw c d a).set v.toNat (c.getD v.toNat 0):=by
 unfold qdw;rw[qBj];rfl
def qox(p)(h:RfH p)(hvp:VP p)(hr:RnH p)(gi a)(haf:Fits a)(k) :
 Pure prog GG 11 [.agg (qt p),.int .i64 gi,.sl 1 (a.map qh) .none,.int .i64 k] (.tup [.sl 1 ((QL p gi a k).1.map qh) .none,.int .i64 (QL p gi a k).2]):=by
 refine qEF oM true qe func11 rfl (by kernel_rfl) ?_;have hp:=Vj p h hvp hr gi a haf;obtain⟨RES,hRES⟩:∃RES,RES=QL p gi a k:=⟨_,rfl⟩;rw[<- hRES];unfold QL at hRES;have hok:=qri (p:=p) (gi:=gi) (a:=a);have hCn:=qmX hr (gi:=gi) (a:=a);generalize yR p gi a=q at *;obtain⟨C,W,s,e⟩:=q;dsimp only at hp hRES hok hCn;simp only[qt]at hp;by_cases he:e=0
 case neg=>
  rw[if_pos he]at hRES;simp;refine qEJ (G:=zk GG) hp (by simp) ?_;simp[he,hRES];rw[qA (by simp)];exact⟨by simp,by simp[Leq,zn]⟩
 subst he;rw[if_neg (fun e=>e rfl)]at hRES;by_cases hk:k<0\/s<=k
 . rw[if_pos hk]at hRES;simp;refine qEJ (G:=zk GG) hp (by simp) ?_;rcases hk with hk|hk
   . simp[hk,hRES];rw[qA (by simp)];exact⟨by simp,by simp[Leq,zn]⟩
   by_cases hk0:k<0
   . simp[hk0,hRES];rw[qA (by simp)];exact⟨by simp,by simp[Leq,zn]⟩
   simp[hk0,hk,hRES];rw[qA (by simp)];exact⟨by simp,by simp[Leq,zn]⟩
 rw[if_neg hk]at hRES;obtain⟨g0,G,⟨hv,hG,hass,hCl,hWl,hs,hsle,hrng⟩,hGd⟩:=hok rfl;rw[hGd]at hRES;obtain⟨g,rfl⟩:=qAH g0;rw[qAS]at hG;have hal:=(wV hv hass).1;have hvl:=h.vq.vars;have hGm:=qAn hG;have hGin:∀v∈G,0<=v/\v<(p.vars.length:Nat):=fun v hv'=>by
  obtain⟨n,w,e1,e2,_⟩:=QZ ((jE hv).2.1 _ (qAX.2 ⟨G,hGm,hv'⟩));have:=(qAm.1 e2).1;omega
 have hGl:G.length<=1000:=by
  have h1:=(JM hv hvl).1 (G.map Int.toNat) (qAN.2 ⟨G,hGm,rfl⟩)
  rwa[qAY]at h1
 have ha0:a≠[]:=fun e=>by
  obtain⟨v,hv'⟩:=qDZ G ((jE hv).1 G hGm);have:=hGin v hv';rw[e]at hal;simp at hal;omega
 have hat:=qp3 (W:=W) (k:=k) (by omega) (by omega);obtain⟨AT,hAT⟩:∃AT,AT=atW W k:=⟨_,rfl⟩;rw[<- hAT]at hat hRES;obtain⟨c,hc⟩:∃c,C[AT]?=some c:=⟨_,qAo (by omega)⟩;have hcl:c.length=p.vars.length:=hCl c (qAn hc);rw[show C.getD AT []=c by rw[qAx,hc];rfl]at hRES;have hla:¬(a.length=0):=by have:=qAI.2 ha0;omega
 simp;refine qEJ (G:=zk GG) hp (by simp) ?_;simp[show ¬k<0 from fun e=>hk (.inl e),show ¬s<=k from fun e=>hk (.inr e)];refine qEO (fun m ev U=>∃(at_:Nat) (rem:Int),m=W.length-at_/\at_<=W.length/\0<=rem/\rem<(W.drop at_).sum/\AT=at_+atW (W.drop at_) rem/\rem<=1099511627776/\ev 1=.int .i64 g/\ev 2=.sl 1 (a.map qh) .none/\ev 3=.int .i64 rem/\ev 4=.ptr 0 0/\ev 10=.sl 1 (C.map qx) .none/\ev 11=.sl 1 (W.map qh) .none/\ev 14=.int .i64 at_/\U=⟨[.cells (qt p)],[]⟩) W.length ?_ ?_
 . exact⟨0,k,rfl,by omega,by omega,by rw[qBz];omega,by rw[qBz,hAT];omega,by omega,by simp,by simp,by simp,by simp,by simp,by simp,by simp,by simp[qt]⟩
 rintro m ev U R hR ⟨i,rem,rfl,hi,r0,r1,hA2,r2,e1,e2,e3,e4,e10,e11,e14,rfl⟩;have hiW:i<W.length:=by
  apply Classical.byContradiction;intro hn;rw[qA3 (by omega)]at r1;simp at r1;omega
 have hiW':(i:Int)<W.length:=by omega
 obtain⟨w,hw⟩:∃w,W[i]?=some w:=⟨_,qAo hiW⟩;have hdr:W.drop i=w::W.drop (i+1):=by
  obtain⟨h1,h2⟩:=qAm.1 hw;rw[qAJ h1,h2]
 rw[hdr]at r1 hA2;rw[qCp]at r1;unfold atW at hA2;have hwr:=hrng w (qAn hw);by_cases hge:rem<w
 case neg=>
  rw[if_neg hge]at hA2;have hge':w<=rem:=by omega
  have hw1:=wr (n:=rem-w) (by omega) (by omega);have hw2:=wr (n:=(i:Int)+1) (by omega) (by omega);simp[e3,e11,e14,hw,hge',hw1,hw2];exact hR (W.length-(i+1)) _ _ (by omega) ⟨i+1,rem-w,rfl,by omega,by omega,by omega,by omega,by omega,by simp[e1],by simp[e2],by simp,by simp[e4],by simp[e10],by simp[e11],by simp,rfl⟩
 rw[if_pos hge,qBP]at hA2;subst hA2;simp[e2,e3,e11,e14,hw,show ¬w<=rem by omega,oM,zq,zX,qQ,Yv,hla,show a.length<=549755813888 by omega,ha0,qt];refine qEZ G (fun d ev U=>ev 1=.int .i64 g/\ev 4=.ptr 0 0/\ev 10=.sl 1 (C.map qx) .none/\ev 14=.int .i64 AT/\ev 15=.ms 1 0 a.length 1/\ev 16=.int .i64 d.length/\∃T,U=⟨[.cells (qt p),.cells (zc (qdw c d a))],T⟩) ?_ ?_ ?_
 . refine⟨by simp[e1],by simp[e4],by simp[e10],by simp[e14],by simp,by simp,[],?_⟩;have:qdw c [] a=a:=rfl;rw[this,jL,qBM];simp[qt]
 . rintro d v rest ev2 U R2 hR2 hdl hx hlt ⟨f1,f4,f10,f14,f15,f16,T,rfl⟩;have hdw:=wr (n:=(d.length:Int)+1) (by omega) (by omega);have hlt':(d.length:Int)<G.length:=(by omega);obtain⟨hv0,hv1⟩:=hGin v (qAn hx);obtain⟨n,rfl⟩:=qAH hv0;have hnc:n<c.length:=(by omega);have hna:n<a.length:=(by omega);have hna':(n:Int)<a.length:=(by omega);have hna1:n+1<=a.length:=hna;obtain⟨y,hy⟩:∃y,c[n]?=some y:=⟨_,qAo hnc⟩;have hsn:=qje c d (n:Int) a;rw[qAS,show c.getD n 0=y by rw[qAx,hy];rfl]at hsn;have hsl:=Yx c d a;have hset:∀(o:List Int),(zc o).set n (.int .i64 y)=zc (o.set n y):=fun o=>by simp[zc,qDg]
   have hgo:∀ev' U',ev' 1=.int .i64 g->ev' 4=.ptr 0 0->ev' 10=.sl 1 (C.map qx) .none->ev' 14=.int .i64 AT->ev' 15=.ms 1 0 a.length 1->ev' 16=.int .i64 ((d.length:Int)+1)->U'=⟨[.cells (qt p),.cells (zc ((qdw c d a).set n y))],T⟩->R2 ev' U':=fun ev' U' x1 x4 x10 x14 x15 x16 xs=>
    hR2 _ _ ⟨x1,x4,x10,x14,x15,by rw[x16,qAq,qAQ];rfl,T,by rw[hsn];exact xs⟩
   generalize qdw c d a=o at *;simp[f1,f4,f10,f14,f15,f16,hG,hlt',hx,hc,hy,hna',hna1,hset,hsl,hdw,qt,qx,qS];exact hgo _ _ (by simp[f1]) (by simp[f4]) (by simp[f10]) (by simp[f14]) (by simp[f15]) (by simp) (by simp[qt])
 rintro ev2 U ⟨f1,f4,f10,f14,f15,f16,T,rfl⟩;have hsl:=Yx c G a;have hsn0:qdw c G a≠[]:=fun e=>by rw[e]at hsl;simp at hsl;omega
 simp[f1,f4,f15,f16,hG,qt,qx,hRES];have hrow:qit 1 [.cells [AV.sl 4 (p.vars.map qJ) .none,.sl 4 (p.hard.map qp) .none,.sl 4 (p.soft.map qp) .none,.sl 2 (p.dists.map zl) .none,.sl 1 (p.groups.map qx) .none],.cells (zc (qdw c G a))] (.ms 1 0 a.length 1) (qdw c G a):=.inr ⟨hsn0,by rw[hsl],rfl⟩;obtain⟨q1,q2,q3⟩:=hrow.frz 6;exact wy q1 q2 q3
def qp5(x y:Int):Int:=IntKind.i64.wrap ((BitVec.ofInt IntKind.i64.bits x &&& BitVec.ofInt IntKind.i64.bits y).toNat:Int)
def qjP(x y):zw .and .i64 x y=some (.int .i64 (qp5 x y)):=rfl
def qsP(n):0<=qp5 n 15:=by
 have e:((BitVec.ofInt 64 n &&& 15#64).toNat:Int)=n%16:=by
  rw[BitVec.toNat_and,BitVec.toNat_ofInt];have e:(15#64).toNat=2^4-1:=by decide
  rw[e,qCv];omega
 have h:qp5 n 15=IntKind.i64.wrap ((BitVec.ofInt 64 n &&& 15#64).toNat:Int):=rfl;rw[h,e,wr (by omega) (by omega)];omega
def qpJ(v:Var)(n:Int):Int:=if v.mode=0 then v.value else qp5 n (IntKind.i64.wrap (IntKind.i64.wrap (1*2^(min (qp5 v.width 15).toNat IntKind.i64.bits))-1))
def VJ:List Var->List Int->List Int
 |[],_=>[]
 |v::r,[]=>qpJ v 0::VJ r []
 |v::r,x::xs=>qpJ v x::VJ r xs
def YE:∀(l) (xs),(VJ l xs).length=l.length
 |[],_=>by simp[VJ]
 |v::r,[]=>by simp[VJ,YE r []]
 |v::r,x::xs=>by simp[VJ,YE r xs]
def qaR:∀{l:List Var}{xs:List Int}{i:Nat}{v:Var},l[i]?=some v->(VJ l xs)[i]?=some (qpJ v ((xs[i]?).getD 0))
 |v::r,[],0,w,h=>by simp at h;simp[VJ,h]
 |v::r,x::xs,0,w,h=>by simp at h;simp[VJ,h]
 | v::r,[],i+1,w,h=>by
  have:=qaR (l:=r) (xs:=[]) (i:=i) (v:=w) (by simpa using h);simpa[VJ] using this
 | v::r,x::xs,i+1,w,h=>by
  have:=qaR (l:=r) (xs:=xs) (i:=i) (v:=w) (by simpa using h);simpa[VJ] using this
def qkJ(p xs){i v}(h:p[i]?=some v):(VJ p xs).take (i+1)=(VJ p xs).take i++[qpJ v ((xs[i]?).getD 0)]:=by
 rw[qAT,qaR h];rfl
def qyh(p xs)(hl:p.vars.length<=1000)(ha:Fits xs):Pure prog GG 7 [.agg (qt p),.sl 1 (xs.map qh) .none] (.sl 1 ((VJ p.vars xs).map qh) .none):=by
 refine qEG qe func7 rfl (by kernel_rfl) ?_;have hlen:=YE p.vars xs;simp;refine qEN p.vars (fun d ev U=>ev 1=.sl 1 (xs.map qh) .none/\ev 2=.ptr 0 0/\ev 5=QS 1 qh 0 ((VJ p.vars xs).take d.length)/\ev 6=.int .i64 d.length/\∃u,U=⟨.cells (qt p)::u,yI [] ((VJ p.vars xs).take d.length)⟩) ?_ ?_ ?_
 . simp[qt]
 . rintro d v rest ev U hd hx hlt ⟨e1,e2,e5,e6,u,rfl⟩;have hlt':(d.length:Int)<p.vars.length:=(by omega);have hw:=wr (n:=(d.length:Int)+1) (by omega) (by omega);have hsn:=qkJ p.vars xs hx;have htl:((VJ p.vars xs).take d.length).length<2^30:=(by simp;omega);have h15:=qsP v.width;have h15':¬qp5 v.width 15<0:=(by omega);have happ:∀(H:List Blk) (s:List Int),s.length<2^30->∀n,qr (Dof prog) ⟨H,yI [] s⟩ 28 (QS 1 qh 0 s) (.sl 1 [[.int .i64 n]] .tight)=some (QS 1 qh 0 (s++[n]),⟨H,yI [] (s++[n])⟩):=fun H s hs n=>
    yU (D:=Dof prog) (sz:=1) (T:=[]) (H:=H) (m:=[n]) (en:=qh) D28 rfl D3 rfl (by decide) rfl (by decide) (by simp only[qAQ];omega) 1 (.inl rfl)
   generalize (VJ p.vars xs).take d.length=S at *;rw[qAq,qAQ,hsn];generalize hX:(xs[d.length]?).getD 0=X at *;have hm1:¬v.mode=0->qp5 X (IntKind.i64.wrap (IntKind.i64.wrap (2^(min (qp5 v.width 15).toNat IntKind.i64.bits))-1))=qpJ v X:=fun h=>by unfold qpJ;rw[if_neg h,Int.one_mul]
   have hm0:v.mode=0->v.value=qpJ v X:=fun h=>by unfold qpJ;rw[if_pos h]
   by_cases hxl:d.length<xs.length
   . have hgx:xs[d.length]?=some X:=by
      rw[qAo hxl]at hX⊢;simpa using hX
     have hxl':(d.length:Int)<xs.length:=(by omega);by_cases hm:v.mode=0
     . simp[e1,e2,e5,e6,hlt',hx,hxl',hgx,hm,qf,qm,happ _ _ htl,hw,qt];rw[hm0 hm];exact⟨rfl,rfl⟩
     simp[-zw,qjP,Kx,JY,Vt,Vu,e1,e2,e5,e6,hlt',hx,hxl',hgx,hm,qf,qm,happ _ _ htl,hw,qt,h15'];rw[hm1 hm];exact⟨rfl,rfl⟩
   have hxl':¬(d.length:Int)<xs.length:=(by omega);have hX0:X=0:=by
    rw[qAU (by omega)]at hX;exact hX.symm
   subst hX0;by_cases hm:v.mode=0
   . simp[e1,e2,e5,e6,hlt',hx,hxl',hm,qf,qm,happ _ _ htl,hw,qt];rw[hm0 hm];exact⟨rfl,rfl⟩
   simp[-zw,qjP,Kx,JY,Vt,Vu,e1,e2,e5,e6,hlt',hx,hxl',hm,qf,qm,happ _ _ htl,hw,qt,h15'];rw[hm1 hm];exact⟨rfl,rfl⟩
 rintro ev U ⟨e1,e2,e5,e6,u,rfl⟩;rw[qAs (by omega)]at e5;simp[-fin,-ky,-vG,e2,e5,e6]
def Ww{p}(hv:qk p=0){a}(ha:a∈jV p.vars){i}(hi:i∈(NG p).flatten):∃x:Nat,a[i]?=some (x:Int)/\x<2^jz p i/\aN a i=x:=by
 obtain⟨v,hvi,hm⟩:=yA hv hi;obtain⟨x,h1,h2⟩:=wn (ko.1 ha) hvi;rw[if_neg hm]at h2;obtain⟨n,rfl⟩:=qAH h2.1;refine⟨n,h1,?_,by unfold aN;rw[qAx,h1];simp⟩;rw[(qo2 hv hvi).1];unfold zP at h2;omega
def Qs{vs a}(h:qC vs a=true):a∈jV vs:=by
 unfold qC at h;simp only[qAr,decide_eq_true_eq,qAv]at h;refine ko.2 (qjQ h.1 fun i v hvi=>?_);have hi:=(qAm.1 hvi).1;obtain⟨x,hx⟩:∃x,a[i]?=some x:=⟨_,qAo (by omega)⟩;have h1:=h.2 (v,x) (qAn (qB2.2 ⟨hvi,hx⟩));unfold zD at h1;simp only[qAr,decide_eq_true_eq,qCj,qBO,decide_eq_false_iff_not]at h1;refine⟨x,hx,?_⟩;by_cases hm:v.mode=0
 . rw[if_pos hm];exact h1.2.resolve_left fun h=>h hm
 rw[if_neg hm];have:((2^v.width.toNat:Nat):Int)=(2:Int)^v.width.toNat:=by simp
 unfold zP;exact⟨h1.1.1,by omega⟩
noncomputable def qhe(p:Problem)(a:List Int)(g:Nat):Nat:=yx p (qE p).1 (fun _=>none) ((NG p).getD g []) (QR p a g)
def qeT(p a gi):∀(l) (fx) (idx) (out) (k),k∉l->(chP p a gi l fx idx out)[k]?=out[k]?
 |[],_,_,_,_,_=>rfl
 | i::r,fx,idx,out,k,hk=>by
  unfold chP;dsimp only;rw[qeT p a gi r _ _ _ k fun h=>hk (by simp[h]),qAp fun e=>hk (by simp[e])]
def QK{p}(h:qk p=0){k d}(hk:p.dists[k]?=some d):yG p.vars d.var=true/\∀y∈p.dists.take k,y.var≠d.var:=by
 have hd:yr p.vars p.dists=0:=by
  unfold qk at h;split at h
  . exact absurd h (by assumption)
  split at h
  . rename_i h1;exact absurd h h1
  split at h
  . rename_i h1;exact absurd h h1
  rename_i h1;exact qBt.1 h1
 have hkl:=(qAm.1 hk).1;unfold yr at hd;have:=zC.1 hd k (by simp;omega);unfold jQ at this;rw[hk]at this;simp only at this;split at this
 . cases this
 rename_i hr;split at this
 . cases this
 rename_i ht;refine⟨by simpa using hr,fun y hy e=>ht (qAW.2 ⟨y,hy,by simp[e]⟩)⟩
def qcB{p}(h:qk p=0){d}(hd:d∈p.dists):∃i:Nat,d.var=i/\i<p.vars.length/\i∈(NG p).flatten/\(z8 p.vars.length p.dists)[i]?=some (some d.weights):=by
 obtain⟨k,hk⟩:=qA5 hd;obtain⟨h1,h2⟩:=QK h hk;simp only[yG,qAr,decide_eq_true_eq]at h1;obtain⟨i,hi⟩:=qAH h1.1;rw[hi,qAS]at h1;obtain⟨v,hvi,hm⟩:∃v,p.vars[i]?=some v/\v.mode≠0:=by
  cases hv:p.vars[i]? with
  |none=>rw[hv]at h1;simp at h1
  |some v=>rw[hv]at h1;exact⟨v,rfl,by simpa using h1.2⟩
 have hil:=(qAm.1 hvi).1;refine⟨i,hi,hil,qao h hvi hm,?_⟩;have later:∀y∈p.dists.drop (k+1),y.var.toNat≠i:=fun y hy e=>by
  obtain⟨j,hj⟩:=qA5 hy;rw[qBe]at hj;obtain⟨g1,g2⟩:=QK h hj;simp only[yG,qAr,decide_eq_true_eq]at g1;refine g2 d ?_ (by omega);refine qAn (i:=k) ?_;rw[qCO (by omega),hk]
 have keep:∀(l:List Dist) (o:List (Option (List Weight))),(∀y∈l,y.var.toNat≠i)->(l.foldl (fun o d=>o.set d.var.toNat (some d.weights)) o)[i]?=o[i]? := by
  intro l
  induction l with
  |nil=>intro o _;rfl
  | cons y l ih=>
   intro o hl;rw[qA1,ih _ fun z hz=>hl z (by simp[hz]),qAp (hl y (by simp))]
 have e:p.dists=p.dists.take k++d::p.dists.drop (k+1):=by
  obtain⟨x1,x2⟩:=qAm.1 hk;have:=qA9 k p.dists;rw[qAJ x1,x2]at this;exact this.symm
 unfold z8;rw[e,qBj,qA1,keep _ _ later,hi,qAS];refine qAt ?_;have:=j8 p.vars.length (p.dists.take k);unfold z8 at this;rw[this];exact hil
def qhm{p}(hr:RnH p)(hv:qk p=0)(hb:kl p.vars (qK p)<=10):(NG p).flatten.length<=12:=by
 have h1:=qfa hv hr.q.vars;have:∀l:List Nat,(∀i∈l,i∈(NG p).flatten)->l.length<=LW p l:=by
  intro l
  induction l with
  |nil=>intro _;simp
  | cons i l ih=>
   intro h;have h2:=ih fun j hj=>h j (by simp[hj])
   obtain⟨v,hvi,hm⟩:=yA hv (h i (by simp));have hw:=(zd (z0 hv v (qAn hvi))).2;have h3:=(qo2 hv hvi).1;rw[show LW p (i::l)=jz p i+LW p l by simp[LW],qAD];omega
 have:=this _ fun i hi=>hi
 omega
def qyC{p}(hv:qk p=0){gi}(hgi:gi<(NG p).length):∃g,(NG p)[gi]?=some g/\(NG p).getD gi []=g/\g.Nodup/\∀i∈g,i∈(NG p).flatten:=by
 obtain⟨g,hg⟩:∃g,(NG p)[gi]?=some g:=⟨_,qAo hgi⟩;refine⟨g,hg,by rw[qAx,hg];rfl,?_,fun i hi=>qAX.2 ⟨g,qAn hg,hi⟩⟩;have hnf:=qgO hv;obtain⟨post,hpost⟩:=qgN hg;rw[hpost]at hnf;exact(qBV.1 (qBV.1 hnf).1).2.1
def okF(fx:Nat->Option Nat)(g:List Nat)(x:List Int):Bool:=g.all fun i=>(fx i).all fun v=>decide (aN x i=v)
def vS{α}(f q):∀l:List α,jh f (l.filter q)=jh (fun a=>if q a=true then f a else 0) l
 |[]=>rfl
 | a::l=>by
  have ih:=vS f q l;rw[qC2];by_cases h:q a=true
  . rw[if_pos h];simp only[jh,ih,if_pos h]
  rw[if_neg h];simp only[jh,ih,if_neg h];omega
def qbS(K:Nat->Nat):∀(N v),v<N->jh (fun x=>if v=x then K x else 0) (List.range N)=K v
 |0,v,h=>by omega
 | N+1,v,h=>by
  rw[qBF,Q7];by_cases hv:v=N
  . subst hv;have:jh (fun x=>if v=x then K x else 0) (List.range v)=0:=Zw fun a ha=>by
     have:=qBq.1 ha;rw[if_neg (by omega)]
    rw[this];simp[jh]
  rw[qbS K N v (by omega)];simp[jh,hv]
structure Reps(p:Problem)(R:List Ex)(g:List Nat)(c:List (Nat×Nat))(C:List (List Int)):Prop where
 sol:∀x∈C,x∈jV p.vars/\kN p.vars R x=true/\∀q∈c,aN x q.1=q.2
 cov:∀x∈jV p.vars,kN p.vars R x=true->(∀q∈c,aN x q.1=q.2)->∃y∈C,∀i∈g,aN y i=aN x i
 dis:C.Pairwise fun x y=>∃i∈g,aN x i≠aN y i
def qpu{p}(hv:qk p=0){R c}(hc:∀q∈c,q.1∈(NG p).flatten):okC p R c=true↔∃x∈jV p.vars,kN p.vars R x=true/\∀q∈c,aN x q.1=q.2:=by
 unfold okC;rw[qAW];constructor
 . rintro⟨x,hx,h⟩;rw[qAr,qAv]at h;refine⟨x,hx,h.1,fun q hq=>?_⟩;have:=of_decide_eq_true (h.2 q hq);obtain⟨y,h1,h2,h3⟩:=Ww hv hx (hc q hq);rw[this]at h1;have:=Option.some.inj h1;omega
 rintro⟨x,hx,h1,h2⟩;refine⟨x,hx,?_⟩;rw[qAr,qAv];refine⟨h1,fun q hq=>?_⟩;obtain⟨y,g1,g2,g3⟩:=Ww hv hx (hc q hq);have:=h2 q hq;rw[g1,decide_eq_true_eq];congr 1;omega
def Y2{p}(hv:qk p=0){R}(fx):∀(g:List Nat) (c:List (Nat×Nat)) (C:List (List Int)),(∀i∈g,i∈(NG p).flatten)->(∀q∈c,q.1∈(NG p).flatten)->Reps p R g c C ->
 yx p R fx g c=jh (fun x=>if okF fx g x=true then jJ p (aN x) g else 0) C
 | [],c,C,hg,hc,h=>by
  have hlen:C.length<=1:=by
   match C,h.dis with
   |[],_=>simp
   |[x],_=>simp
   | x::y::r,hd=>
    have:=(qDk.1 hd).1 y (by simp);obtain⟨i,hi,_⟩:=this;cases hi
  unfold yx;by_cases hok:okC p R c=true
  . rw[if_pos hok];obtain⟨x,hx,h1,h2⟩:=(qpu hv hc).1 hok;obtain⟨y,hy,_⟩:=h.cov x hx h1 h2
    match C,hlen,hy with
    |[z],_,_=>simp[jh,okF,jJ]
    |z::w::r,hl,_=>simp at hl
  rw[if_neg hok];have:C=[]:=by
   apply qBY.2;intro x hx;obtain⟨a1,a2,a3⟩:=h.sol x hx;exact hok ((qpu hv hc).2 ⟨x,a1,a2,a3⟩)
  rw[this];rfl
 | i::g,c,C,hg,hc,h=>by
  have hi:=hg i (by simp);have ih:=fun v=>Y2 hv (R:=R) fx g (c++[(i,v)]) (C.filter fun x=>decide (aN x i=v)) (fun j hj=>hg j (by simp[hj])) (fun q hq=>by
   rcases qAC.1 hq with hq|hq
   . exact hc q hq
   have:q=(i,v):=by simpa using hq
   rw[this];exact hi) ⟨fun x hx=>by
   rw[qBu,decide_eq_true_eq]at hx;obtain⟨a1,a2,a3⟩:=h.sol x hx.1;refine⟨a1,a2,fun q hq=>?_⟩;rcases qAC.1 hq with hq|hq
   . exact a3 q hq
   . have:q=(i,v):=by simpa using hq
     rw[this];exact hx.2,fun x h1 h2 h3=>by
   obtain⟨y,hy,h4⟩:=h.cov x h1 h2 fun q hq=>h3 q (by simp[hq])
   have h5:aN x i=v:=h3 (i,v) (by simp);refine⟨y,qBu.2 ⟨hy,by rw[decide_eq_true_eq,h4 i (by simp),h5]⟩,fun j hj=>h4 j (by simp[hj])⟩,by
   refine(h.dis.filter _).imp_of_mem ?_;intro x y hx hy ⟨j,hj,hne⟩;rw[qBu,decide_eq_true_eq]at hx hy;rcases qAM.1 hj with rfl|hj
   . exact absurd (hx.2.trans hy.2.symm) hne
   exact⟨j,hj,hne⟩⟩
  unfold yx;simp only[ih,vS];have e1:∀v,wtP p i v*jh (fun x=>if decide (aN x i=v)=true then(if okF fx g x=true then jJ p (aN x) g else 0) else 0) C=jh (fun x=>if aN x i=v then wtP p i v*(if okF fx g x=true then jJ p (aN x) g else 0) else 0) C:=fun v=>by
   rw[<- qah];refine yo fun x _=>?_
   by_cases hx:aN x i=v<;>simp[hx]
  simp only[e1];rw[Y7];refine yo fun x hx=>?_
  obtain⟨a1,_,_⟩:=h.sol x hx;obtain⟨y,g1,g2,g3⟩:=Ww hv a1 hi;have hokc:okF fx (i::g) x=((fx i).all (fun v=>decide (aN x i=v))&&okF fx g x):=by unfold okF;rw[qBH]
  rw[hokc];show jh _ (wH (jz p i) (fx i))=_
  cases hf:fx i with
  | none=>
   show jh _ (List.range _)=_;rw[qbS (fun v=>wtP p i v*(if okF fx g x=true then jJ p (aN x) g else 0)) _ _ (by rw[g3];exact g2)];simp only[Option.all_none,qBC,jJ];split
   . rfl
   rw[Nat.mul_zero]
  | some v=>
   show jh _ [v]=_;simp only[jh,qBP,Option.all_some,jJ];by_cases hx:aN x i=v
   . rw[if_pos hx];cases hO:okF fx g x<;>simp[hx]
   rw[if_neg hx];simp[hx]
def ZX{p}(hv:qk p=0):p.groups=(NG p).map fun g=>g.map fun n:Nat=>(n:Int):=by
 unfold NG;rw[qBR]
 conv=>lhs;rw[<- qEh p.groups]
 refine qBv fun g hg=>?_
 show g=(g.map Int.toNat).map fun n:Nat=>(n:Int)
 rw[qBR]
 conv=>lhs;rw[<- qEh g]
 refine qBv fun v hv'=>?_
 obtain⟨n,w,e1,_⟩:=QZ ((jE hv).2.1 _ (qAX.2 ⟨g,hg,hv'⟩));show v=((v.toNat:Nat):Int);omega
def qe8{x y}{g:List Nat}:agG x y (g.map fun n:Nat=>(n:Int))=true↔∀i∈g,x.getD i 0=y.getD i 0:=by
 unfold agG agV;simp[qAv]
def KK{a b c}:∀{l:List Int},jo a b l=true->jo b c l=true->jo a c l=true
 |[],h,_=>by cases h
 | v::l,h1,h2=>by
  unfold jo at h1 h2⊢;split at h1
  . rename_i e1;split at h2
    . rename_i e2;rw[if_pos (e1.trans e2)];exact KK h1 h2
    rename_i e2;rw[decide_eq_true_eq]at h2;rw[if_neg (by omega),decide_eq_true_eq];omega
  rename_i e1;rw[decide_eq_true_eq]at h1;split at h2
  . rename_i e2;rw[if_neg (by omega),decide_eq_true_eq];omega
  rename_i e2;rw[decide_eq_true_eq]at h2;rw[if_neg (by omega),decide_eq_true_eq];omega
def qcD{a b}:∀{l:List Int},jo a b l=false->jo b a l=true\/∀v∈l,a.getD v.toNat 0=b.getD v.toNat 0
 |[],_=>.inr fun v hv=>by cases hv
 | v::l,h=>by
  unfold jo at h⊢;by_cases e:a.getD v.toNat 0=b.getD v.toNat 0
  . rw[if_pos e]at h;rw[if_pos e.symm];rcases qcD h with h|h
    . exact .inl h
    refine .inr fun w hw=>?_
    rcases qAM.1 hw with rfl|hw
    . exact e
    exact h w hw
  rw[if_neg e]at h;rw[if_neg (fun h=>e h.symm)];rw[decide_eq_false_iff_not]at h;exact .inl (by rw[decide_eq_true_eq];omega)
def qf8{a b}:∀{l:List Int},jo a b l=true->∃v∈l,a.getD v.toNat 0≠b.getD v.toNat 0
 |[],h=>by cases h
 | v::l,h=>by
  unfold jo at h;by_cases e:a.getD v.toNat 0=b.getD v.toNat 0
  . rw[if_pos e]at h;obtain⟨w,h1,h2⟩:=qf8 h;exact⟨w,by simp[h1],h2⟩
  exact⟨v,by simp,e⟩
def qgI(f):∀(n) (o),o.length=n->(∀(j) (x),(atX f o).1<=j->o[j]?=some x->f x=false)/\((atX f o).1=0\/∃x,o[(atX f o).1-1]?=some x/\f x=true)
 | 0,o,h=>by
  have:=qAA h;subst this;exact⟨fun j x _ hx=>by simp at hx,.inl rfl⟩
 | n+1,o,h=>by
  obtain⟨d,y,rfl⟩:∃d y,o=d++[y]:=⟨o.dropLast,o.getLast (by rintro rfl;simp at h),(qBB _).symm⟩;have hd:d.length=n:=by simpa using h
  obtain⟨h1,h2⟩:=qgI f n d hd;have hl:=qeY f d;rw[qba,hl.1]
  cases hy:f y with
  | true=>
   rw[if_pos rfl];refine⟨fun j x hj hx=>?_,.inr ⟨y,?_,hy⟩⟩
   . have:=(qAm.1 hx).1;simp at this hj;omega
   dsimp only;rw[Nat.add_sub_cancel,qAw (qAy _),qBm];rfl
  | false=>
   rw[if_neg (by simp)];refine⟨fun j x hj hx=>?_,?_⟩
   . by_cases hjd:j<d.length
     . rw[qAB hjd]at hx;exact h1 j x hj hx
     . have:=(qAm.1 hx).1;simp at this;have:j=d.length:=by omega
       subst this;rw[qAw (qAy _),qBm]at hx;have:y=x:=by simpa using hx
       rw[<- this];exact hy
   rcases h2 with h2|⟨x,h3,h4⟩
   . exact .inl h2
   refine .inr ⟨x,?_,h4⟩;dsimp only;have:=(qAm.1 h3).1;rw[qAB this];exact h3
structure ChI(G:List (List Int))(i:Nat)(l:List Int)(a:List Int)(S out:List (List Int)):Prop where
 mem:∀c∈out,c∈S/\ja G 0 i c a=true
 ord:out.Pairwise fun x y=>jo x y l=true
 cov:∀x∈S,ja G 0 i x a=true->∃c∈out,ja G i (i+1) c x=true
def qi6{G i g a}(hag:∀x y:List Int,ja G i (i+1) x y=true↔∀v∈zN g,x.getD v.toNat 0=y.getD v.toNat 0){S out}(h:ChI G i (zN g) a S out)(x):ChI G i (zN g) a (S++[x]) (vF G i g a out x):=by
 unfold vF;by_cases h1:ja G 0 i x a=true
 case neg=>
  rw[if_neg h1];refine⟨fun c hc=>⟨by simp[(h.mem c hc).1],(h.mem c hc).2⟩,h.ord,fun y hy hya=>?_⟩;rcases qAC.1 hy with hy|hy
  . exact h.cov y hy hya
  have:y=x:=by simpa using hy
  rw[this]at hya;exact absurd hya h1
 rw[if_pos h1];by_cases h2:(out.any fun v=>ja G i (i+1) v x)=true
 . rw[if_pos h2];refine⟨fun c hc=>⟨by simp[(h.mem c hc).1],(h.mem c hc).2⟩,h.ord,fun y hy hya=>?_⟩;rcases qAC.1 hy with hy|hy
   . exact h.cov y hy hya
   have:y=x:=by simpa using hy
   rw[this];obtain⟨c,hc,hcx⟩:=qAW.1 h2;exact⟨c,hc,hcx⟩
 rw[if_neg h2];obtain⟨s1,s2⟩:=qgI (fun v=>jo v x (zN g)) out.length out rfl;generalize (atX (fun v=>jo v x (zN g)) out).1=n at *;have hlow:∀c∈out.take n,jo c x (zN g)=true:=fun c hc=>by
  obtain⟨j,hj⟩:=qA5 hc;have hjn:=(qAm.1 hj).1;simp at hjn;rw[qCO (by omega)]at hj;rcases s2 with s2|⟨z,hz,hzx⟩
  . omega
  by_cases hjz:j=n-1
  . subst hjz;rw[hj]at hz;cases hz;exact hzx
  obtain⟨q1,q2⟩:=qAm.1 hj;obtain⟨r1,r2⟩:=qAm.1 hz;have:=qCb.1 h.ord j (n-1) q1 r1 (by omega);rw[q2,r2]at this;exact KK this hzx
 have hhigh:∀c∈out.drop n,jo x c (zN g)=true:=fun c hc=>by
  obtain⟨j,hj⟩:=qA5 hc;rw[qBe]at hj;have hf:=s1 (n+j) c (by omega) hj;rcases qcD hf with h|h
  . exact h
  exact absurd h ((fun c hc e=>h2 (qAW.2 ⟨c,hc,(hag c x).2 e⟩)) c (qAn hj))
 refine⟨fun c hc=>?_,?_,fun y hy hya=>?_⟩
 . simp only[qAC,qAM]at hc;rcases hc with hc|hc|hc
   . have:=h.mem c (qBa hc);exact⟨by simp[this.1],this.2⟩
   . subst hc;exact⟨by simp,h1⟩
   have:=h.mem c (qBS hc);exact⟨by simp[this.1],this.2⟩
 . have ho:=h.ord;rw[<- qA9 n out,qDz]at ho;rw[qDz];refine⟨ho.1,qDk.2 ⟨hhigh,ho.2.1⟩,fun c hc d hd=>?_⟩;rcases qAM.1 hd with rfl|hd
   . exact hlow c hc
   exact ho.2.2 c hc d hd
 rcases qAC.1 hy with hy|hy
 . obtain⟨c,hc,hcy⟩:=h.cov y hy hya;refine⟨c,?_,hcy⟩;rw[<- qA9 n out]at hc;simp only[qAC,qAM]at hc⊢;rcases hc with hc|hc
   . exact .inl hc
   exact .inr (.inr hc)
 have:y=x:=by simpa using hy
 rw[this];exact⟨x,by simp,(hag x x).2 fun _ _=>rfl⟩
def qeS{G i g a}(hag:∀x y:List Int,ja G i (i+1) x y=true↔∀v∈zN g,x.getD v.toNat 0=y.getD v.toNat 0)(S):ChI G i (zN g) a S (jc G i g a S):=by
 have:∀(l S out:List (List Int)),ChI G i (zN g) a S out->ChI G i (zN g) a (S++l) (l.foldl (vF G i g a) out):=by
  intro l
  induction l with
  |nil=>intro S out h;simpa using h
  | cons x l ih=>
   intro S out h;rw[qA1];have:=ih (S++[x]) _ (qi6 hag h x);simpa using this
 have:=this S [] [] (⟨fun c hc=>(by cases hc),List.Pairwise.nil,fun x hx=>(by cases hx)⟩);unfold jc;simpa using this
def ZW{p}(hv:qk p=0){x}(hx:x∈jV p.vars){i}(hi:i∈(NG p).flatten):x.getD i 0=(aN x i:Int):=by
 obtain⟨y,h1,h2,h3⟩:=Ww hv hx hi;rw[h3,qAx,h1];rfl
def qdr{p}(hv:qk p=0){gi g}(hg:(NG p)[gi]?=some g)(x y):ja p.groups gi (gi+1) x y=true↔∀i∈g,x.getD i 0=y.getD i 0:=by
 unfold ja;have h1:(p.groups.drop gi).take (gi+1-gi)=[g.map fun n:Nat=>(n:Int)]:=by
  rw[ZX hv,<- List.map_drop,<- List.map_take,show gi+1-gi=1 by omega];obtain⟨q1,q2⟩:=qAm.1 hg;rw[qAJ q1,q2];rfl
 rw[h1];simp only[qBH,qEx,qCo];exact qe8
def qlP{p}(hv:qk p=0)(gi x y):ja p.groups 0 gi x y=true↔∀i∈((NG p).take gi).flatten,x.getD i 0=y.getD i 0:=by
 unfold ja;rw[qDc,qBz,ZX hv,<- List.map_take,qAv];constructor
 . intro h i hi;obtain⟨g,h1,h2⟩:=qAX.1 hi;exact qe8.1 (h _ (qAN.2 ⟨g,h1,rfl⟩)) i h2
 intro h g' hg';obtain⟨g,h1,rfl⟩:=qAN.1 hg';exact qe8.2 fun i hi=>h i (qAX.2 ⟨g,h1,hi⟩)
def qmz{g:List Nat}{x y:List Int}:(∀v∈zN (g.map fun n:Nat=>(n:Int)),x.getD v.toNat 0=y.getD v.toNat 0)↔∀i∈g,x.getD i 0=y.getD i 0:=by
 constructor
 . intro h i hi;have:=h (i:Int) ((ZA _).2 (qAN.2 ⟨i,hi,rfl⟩));simpa using this
 intro h v hv;obtain⟨i,hi,rfl⟩:=qAN.1 ((ZA _).1 hv);simpa using h i hi
noncomputable def qo9(p:Problem):List (List Int):=(jV p.vars).filter (kN p.vars (qE p).1)
def qdd{p}(hv:qk p=0){gi g}(hg:(NG p)[gi]?=some g){a}(ha:a∈jV p.vars) :
 Reps p (qE p).1 g (QR p a gi) (jc p.groups gi (g.map fun n:Nat=>(n:Int)) a (qo9 p))/\(jc p.groups gi (g.map fun n:Nat=>(n:Int)) a (qo9 p)).Pairwise fun x y=>jo x y (zN (g.map fun n:Nat=>(n:Int)))=true:=by
 have hgm:∀i∈g,i∈(NG p).flatten:=fun i hi=>qAX.2 ⟨g,qAn hg,hi⟩
 have htk:∀i∈((NG p).take gi).flatten,i∈(NG p).flatten:=fun i hi=>by
  obtain⟨l,h1,h2⟩:=qAX.1 hi;exact qAX.2 ⟨l,qBa h1,h2⟩
 have hinv:=qeS (G:=p.groups) (i:=gi) (g:=g.map fun n:Nat=>(n:Int)) (a:=a) (fun x y=>(qdr hv hg x y).trans qmz.symm) (qo9 p);have hpre:∀x∈jV p.vars,ja p.groups 0 gi x a=true↔∀q∈QR p a gi,aN x q.1=q.2:=fun x hx=>by
  rw[qlP hv];constructor
  . intro h q hq;obtain⟨i,hi,rfl⟩:=qAN.1 hq;have:=h i hi;rw[ZW hv hx (htk i hi),ZW hv ha (htk i hi)]at this;dsimp only;omega
  intro h i hi;have:=h (i,aN a i) (qAN.2 ⟨i,hi,rfl⟩);rw[ZW hv hx (htk i hi),ZW hv ha (htk i hi)];dsimp only at this;omega
 generalize jc p.groups gi (g.map fun n:Nat=>(n:Int)) a (qo9 p)=C at *;have hmem:∀x∈C,x∈jV p.vars/\kN p.vars (qE p).1 x=true:=fun x hx=>by
  have:=(hinv.mem x hx).1;exact qBu.1 this
 refine⟨⟨fun x hx=>⟨(hmem x hx).1,(hmem x hx).2,(hpre x (hmem x hx).1).1 (hinv.mem x hx).2⟩,fun x h1 h2 h3=>?_,?_⟩,hinv.ord⟩
 . obtain⟨c,hc,hcx⟩:=hinv.cov x (qBu.2 ⟨h1,h2⟩) ((hpre x h1).2 h3);refine⟨c,hc,fun i hi=>?_⟩;have:=(qdr hv hg c x).1 hcx i hi;rw[ZW hv (hmem c hc).1 (hgm i hi),ZW hv h1 (hgm i hi)]at this;omega
 refine hinv.ord.imp_of_mem ?_;intro x y hx hy h;obtain⟨v,h1,h2⟩:=qf8 h;obtain⟨i,hi,rfl⟩:=qAN.1 ((ZA _).1 h1);rw[qAS,ZW hv (hmem x hx).1 (hgm i hi),ZW hv (hmem y hy).1 (hgm i hi)]at h2;exact⟨i,hi,fun e=>h2 (by rw[e])⟩
def ql8{p}(hv:qk p=0){i}(hi:i∈(NG p).flatten){x}(hpos:0<wtP p i x){A:Nat}(h1:1<=A)(h2:A<=1099511627776) :
 YR p.dists (i:Int) (x:Int) (some (A:Int))=if A*wtP p i x<=1099511627776 then some ((A*wtP p i x:Nat):Int) else none:=by
 obtain⟨v,hvi,hm⟩:=yA hv hi;obtain⟨o,ho⟩:∃o,(z8 p.vars.length p.dists)[i]?=some o:=⟨_,qAo (by rw[j8];exact(qAm.1 hvi).1)⟩;have hwt:wtP p i x=wtO o (x:Int):=by unfold wtP;rw[qAx,ho];rfl
 have skip:∀(l:List Dist) (B:Option Int),(∀d∈l,d.var≠(i:Int))->YR l (i:Int) (x:Int) B=B:=by
  intro l
  induction l with
  |nil=>intro B _;rfl
  | cons d l ih=>
   intro B h;show YR l _ _ (B.bind fun n=>qiv (i:Int) (x:Int) n d)=B;rw[ih _ fun e he=>h e (by simp[he])]
   cases B with
   |none=>rfl
   | some n=>
    show qiv (i:Int) (x:Int) n d=_;unfold qiv;rw[if_pos (h d (by simp))]
 cases o with
 | none=>
  rw[skip _ _ fun d hd e=>?_,show wtP p i x=1 by rw[hwt];rfl,Nat.mul_one,if_pos h2];obtain⟨j,e1,_,_,e4⟩:=qcB hv hd;have:j=i:=by omega
  subst this;rw[ho]at e4;cases e4
 | some w=>
  obtain⟨d,hd,hdv,hdw⟩:=qcC ho;obtain⟨k,hk⟩:=qA5 hd;obtain⟨j,e1,_,_,e4⟩:=qcB hv hd;have hji:j=i:=by omega
  have e:p.dists=p.dists.take k++d::p.dists.drop (k+1):=by
   obtain⟨x1,x2⟩:=qAm.1 hk;have:=qA9 k p.dists;rw[qAJ x1,x2]at this;exact this.symm
  have hbefore:∀y∈p.dists.take k,y.var≠(i:Int):=fun y hy=>by
   have:=(QK hv hk).2 y hy;rw[e1,hji]at this;exact this
  have hafter:∀y∈p.dists.drop (k+1),y.var≠(i:Int):=fun y hy e'=>by
   obtain⟨m,hm'⟩:=qA5 hy;rw[qBe]at hm';refine(QK hv hm').2 d ?_ (by rw[e',e1,hji]);refine qAn (i:=k) ?_;rw[qCO (by omega),hk]
  have happ:∀(l m:List Dist) (B:Option Int),YR (l++m) (i:Int) (x:Int) B=YR m (i:Int) (x:Int) (YR l (i:Int) (x:Int) B):=fun l m B=>by unfold YR;rw[qBj]
  rw[e,happ,skip _ _ hbefore,show ∀(d:Dist) (m:List Dist) (B:Int),YR (d::m) (i:Int) (x:Int) (some B)=YR m (i:Int) (x:Int) (qiv (i:Int) (x:Int) B d) from fun _ _ _=>rfl,skip _ _ hafter];unfold qiv;rw[if_neg (by rw[e1,hji];simp),hdw];rw[hwt]at hpos⊢;unfold wtO at hpos⊢;dsimp only at hpos⊢;have hnn:=Qv w (x:Int);obtain⟨n,er,hwd⟩:∃n er,zR w (x:Int)=(n,er):=⟨_,_,rfl⟩;simp only[hwd]at hpos hnn⊢;by_cases her:er=0
  case neg=>
   simp only[ne_eq,her,not_false_eq_true,if_true,true_or];rw[if_neg];unfold lim;have:=qBl 1099511627777 h1;omega
  subst her;simp only[ne_eq,not_true_eq_false,if_false,false_or]at hpos⊢;obtain⟨m,rfl⟩:=qAH hnn;rw[qAS]at hpos⊢;have hm0:0<m:=qDQ fun e=>by rw[e]at hpos;simp[sat]at hpos
  have hdiv:((1099511627776:Int)/(m:Int)<(A:Int))↔1099511627776<A*m:=by
   rw[show(1099511627776:Int)/(m:Int)=((1099511627776/m:Nat):Int) by simp,Int.ofNat_lt];exact qEr hm0
  by_cases hbig:1099511627776<A*m
  . rw[if_pos ⟨by omega,hdiv.2 hbig⟩,if_neg];unfold sat lim;by_cases hml:m<=1099511627777
    . rw[qBL hml];omega
    rw[qDv (by omega)];have:=qBl 1099511627777 h1;omega
  have hml:m<=1099511627776:=by
   have:=qBl m h1;omega
  rw[if_neg (fun h=>hbig (hdiv.1 h.2)),show sat m=m by unfold sat lim;omega,if_pos (by omega)];simp
def qbx{p}(hv:qk p=0){x}(hx:x∈jV p.vars):∀(g:List Nat) (A:Nat),(∀i∈g,i∈(NG p).flatten/\0<wtP p i (aN x i))->1<=A->A<=1099511627776 ->
 (g.map fun n:Nat=>(n:Int)).foldl (fun s v=>YR p.dists v (x.getD v.toNat 0) s) (some (A:Int))=if A*jJ p (aN x) g<=1099511627776 then some ((A*jJ p (aN x) g:Nat):Int) else none
 |[],A,_,h1,h2=>by simp[jJ,h2]
 | i::g,A,hg,h1,h2=>by
  obtain⟨hi,hp⟩:=hg i (by simp);have hgg:=fun j (hj:j∈g)=>hg j (by simp[hj])
  have hpw:0<jJ p (aN x) g:=qat fun j hj=>(hgg j hj).2
  rw[qAz,qA1,qAS,ZW hv hx hi,ql8 hv hi hp h1 h2];unfold jJ;by_cases hA:A*wtP p i (aN x i)<=1099511627776
  . rw[if_pos hA,qbx hv hx g _ hgg (qDs h1 hp) hA,qDS]
  rw[if_neg hA,Zu,if_neg];rw[<- qDS];have:=Nat.mul_le_mul_left (A*wtP p i (aN x i)) hpw;omega
def qiA{p}(hv:qk p=0){g}(hgm:∀i∈g,i∈(NG p).flatten):∀(C) (out) (s:Nat),(∀x∈C,x∈jV p.vars/\∀i∈g,0<wtP p i (aN x i))->s<=1099511627776 ->
 qdD p.dists (g.map fun n:Nat=>(n:Int)) C out (s:Int)=if s+jh (fun x=>jJ p (aN x) g) C<=1099511627776 then some (out++C.map (fun x=>(jJ p (aN x) g:Int)),((s+jh (fun x=>jJ p (aN x) g) C:Nat):Int)) else none
 |[],out,s,_,hs=>by simp[qdD,jh,hs]
 | x::C,out,s,hC,hs=>by
  obtain⟨hx,hp⟩:=hC x (by simp);have ih:=fun out s hs=>qiA hv hgm C out s (fun y hy=>hC y (by simp[hy])) hs
  have hw:ql9 p.dists x (g.map fun n:Nat=>(n:Int))=if jJ p (aN x) g<=1099511627776 then some ((jJ p (aN x) g:Nat):Int) else none:=by
   unfold ql9;have:=qbx hv hx g 1 (fun i hi=>⟨hgm i hi,hp i hi⟩) (qAy _) (by omega);rw[qDH]at this;exact this
  unfold qdD;rw[hw];simp only[jh,qAz];by_cases h1:jJ p (aN x) g<=1099511627776
  . rw[if_pos h1];dsimp only;by_cases h2:s+jJ p (aN x) g<=1099511627776
    . rw[if_neg (by omega),<- qDA,ih _ _ h2];rw[qCm,qA4];rfl
    rw[if_pos (by omega),if_neg (by omega)]
  rw[if_neg h1,if_neg (by omega)]
noncomputable def qeR(p:Problem)(gi:Nat)(a:List Int):List (List Int):=jc p.groups gi (((NG p).getD gi []).map fun n:Nat=>(n:Int)) a (qo9 p)
structure ChL(p gi g a C):Prop where
 reps:Reps p (qE p).1 g (QR p a gi) C
 ord:C.Pairwise fun x y=>jo x y (zN (g.map fun n:Nat=>(n:Int)))=true
 all:∀x∈C,x∈jV p.vars/\∀i∈g,0<wtP p i (aN x i)
def qa6{p}(h0:(qE p).2=0){gi g}(hg:(NG p)[gi]?=some g){a}(ha:a∈jV p.vars):ChL p gi g a (qeR p gi a):=by
 obtain⟨hv,_,hs,hneed⟩:=wK h0;obtain⟨h1,h2⟩:=qdd hv hg ha;unfold qeR;rw[show(NG p).getD gi []=g by rw[qAx,hg];rfl];refine⟨h1,h2,fun x hx=>?_⟩;obtain⟨a1,a2,_⟩:=h1.sol x hx;refine⟨a1,fun i hi=>?_⟩;have hev:∀e∈zu p,jw (yg p.vars x) e≠0:=fun e he=>by
  unfold kN at a2;exact of_decide_eq_true (qAv.1 a2 e (hneed e he))
 exact(qtE hv a1 hev (qAX.2 ⟨g,qAn hg,hi⟩)).1
def qfZ(g x):okF (fun _=>none) g x=true:=by
 unfold okF;simp
def qac{p}(h0:(qE p).2=0){gi g}(hg:(NG p)[gi]?=some g){a}(ha:a∈jV p.vars):qhe p a gi=jh (fun x=>jJ p (aN x) g) (qeR p gi a):=by
 obtain⟨hv,_,_,_⟩:=wK h0;have h:=qa6 h0 hg ha;unfold qhe;rw[show(NG p).getD gi []=g by rw[qAx,hg];rfl,Y2 hv (fun _=>none) g _ _ (fun i hi=>qAX.2 ⟨g,qAn hg,hi⟩) (fun q hq=>by
  obtain⟨i,hi,rfl⟩:=qAN.1 hq;obtain⟨l,h1,h2⟩:=qAX.1 hi;exact qAX.2 ⟨l,qBa h1,h2⟩) h.reps]
 simp only[qfZ,if_true]
def Vk{p}(h0:(qE p).2=0){gi:Nat}{g}(hg:(NG p)[gi]?=some g){a}(ha:qC p.vars a=true) :
 yR p gi a=if qeR p gi a=[] then([],[],0,11) else if qhe p a gi<=1099511627776 then(qeR p gi a,(qeR p gi a).map (fun x=>(jJ p (aN x) g:Int)),((qhe p a gi:Nat):Int),0) else([],[],0,3):=by
 obtain⟨hv,_,_,_⟩:=wK h0;have haA:=Qs ha;have h:=qa6 h0 hg haA;have hgi:=(qAm.1 hg).1;have hgl:p.groups.length=(NG p).length:=by simp[NG]
 have hG:p.groups.getD gi []=g.map fun n:Nat=>(n:Int):=by
  rw[ZX hv,qAx,qAR,hg];rfl
 have hC:jc p.groups gi (g.map fun n:Nat=>(n:Int)) a (qo9 p)=qeR p gi a:=by unfold qeR;rw[show(NG p).getD gi []=g by rw[qAx,hg];rfl]
 unfold yR;rw[show QV p=(qo9 p,0) by unfold QV;rw[if_pos h0];rfl,if_neg (by simp),if_neg (by rw[ha,hv];simp;omega),qAS,hG];simp only[hC];have hw:=qiA hv (fun i hi=>qAX.2 ⟨g,qAn hg,hi⟩) (qeR p gi a) [] 0 h.all (by omega);rw[qBQ,<- qac h0 hg haA,qAK,show((0:Nat):Int)=0 from rfl]at hw;rw[hw];by_cases hc:qeR p gi a=[]
 . rw[if_pos hc,if_pos hc]
 rw[if_neg hc,if_neg hc];by_cases ht:qhe p a gi<=1099511627776
 . rw[if_pos ht,if_pos ht]
 rw[if_neg ht,if_neg ht]
def Vl(p gi a):(yR p gi a).2.2=((jX p gi a).1,(jX p gi a).2):=by
 unfold jX;by_cases h0:(qE p).2=0
 case neg=>
  have hall:QV p=([],(qE p).2):=by unfold QV;rw[if_neg h0]
  rw[if_pos h0];unfold yR;rw[hall,if_pos h0]
 obtain⟨hv,_,_,_⟩:=wK h0;rw[if_neg (fun e=>e h0)];by_cases hbad:gi<0\/((NG p).length:Int)<=gi\/qC p.vars a=false
 . have hall:QV p=(qo9 p,0):=(by unfold QV;rw[if_pos h0];rfl);unfold yR JQ;rw[hall,if_neg (by simp),if_pos hbad,if_pos (by rw[show p.groups.length=(NG p).length by simp[NG],hv];simpa using hbad)]
 have g1:¬((NG p).length:Int)<=gi:=fun e=>hbad (.inr (.inl e))
 have ha:qC p.vars a=true:=by
  cases hA:qC p.vars a with
  |true=>rfl
  |false=>exact absurd (.inr (.inr hA)) hbad
 obtain⟨k,rfl⟩:=qAH (qEs.1 fun e=>hbad (.inl e));obtain⟨g,hg⟩:∃g,(NG p)[k]?=some g:=⟨_,qAo (by omega)⟩;have haA:=Qs ha;have hsum:=qac h0 hg haA;have hch:=qa6 h0 hg haA;have hs:qbQ p (fun _=>none) a k=sat (qhe p a k):=Y6 _ _ _ _;rw[Vk h0 hg ha];unfold JQ;rw[if_neg hbad,qAS,hs];have hzero:qhe p a k=0↔qeR p k a=[]:=by
  rw[hsum];constructor
  . intro h;apply qBY.2;intro x hx;have h1:=qi4 (f:=fun x=>jJ p (aN x) g) hx;have h2:0<jJ p (aN x) g:=qat (hch.all x hx).2;omega
  intro h;rw[h];rfl
 by_cases hc:qeR p k a=[]
 . rw[if_pos hc,if_pos (Zb.2 (hzero.2 hc))]
 rw[if_neg hc,if_neg (fun e=>hc (hzero.1 (Zb.1 e)))];by_cases ht:qhe p a k<=1099511627776
 . have hsat:sat (qhe p a k)=qhe p a k:=(by unfold sat lim;omega);rw[if_pos ht,hsat,if_neg (by unfold lim;omega)]
 have hsat:sat (qhe p a k)=lim:=by unfold sat lim;omega
 rw[if_neg ht,hsat,if_pos rfl]
def sel(w:List Int->Nat):List (List Int)->Int->List Int
 |[],_=>[]
 |c::r,k=>if k<(w c:Nat) then c else sel w r (k-(w c:Nat))
def qjf(w):∀(C) (k),C.getD (atW (C.map fun x=>((w x:Nat):Int)) k) []=sel w C k
 |[],k=>rfl
 | c::r,k=>by
  rw[qAz];unfold atW sel;split
  . rfl
  rw[List.getD_cons_succ];exact qjf w r _
def qfy(w c r k):sel w (c::r) k=if k<(w c:Nat) then c else sel w r (k-(w c:Nat)):=rfl
def qd4(w):∀(A B) (k),0<=k->sel w (A++B) k=if k<(jh w A:Nat) then sel w A k else sel w B (k-(jh w A:Nat))
 |[],B,k,h=>by simp[jh,sel];omega
 | c::A,B,k,h=>by
  obtain⟨S,hS⟩:∃S,S=jh w (c::A):=⟨_,rfl⟩;have hS':S=w c+jh w A:=hS;rw[<- hS,qAL,qfy,qfy];by_cases h1:k<(w c:Nat)
  . rw[if_pos h1,if_pos (by omega),if_pos h1]
  rw[if_neg h1,if_neg h1,qd4 w A B _ (by omega)];by_cases h2:k-(w c:Nat)<(jh w A:Nat)
  . rw[if_pos h2,if_pos (by omega)]
  rw[if_neg h2,if_neg (by omega)];congr 1;omega
def qd3(w):∀(A:List (List Int)) (k:Int),0<=k->k<(jh w A:Nat)->sel w A k∈A
 |[],k,h0,h1=>by simp[jh]at h1;omega
 | c::A,k,h0,h1=>by
  simp only[jh]at h1;unfold sel;split
  . simp
  exact qBT _ (qd3 w A _ (by omega) (by omega))
def qmE(w:List Int->Nat)(B:Nat->List (List Int)){N q:Nat}(hq:q<N){r:Int}(h0:0<=r)(h1:r<(jh w (B q):Nat)):sel w ((List.range N).flatMap B) ((jh (fun v=>jh w (B v)) (List.range' 0 q):Nat)+r)=sel w (B q) r:=by
 have e:List.range N=List.range q++q::List.range' (q+1) (N-(q+1)):=by
  rw[qBI,qBI];have h1:=List.range'_append (s:=0) (m:=q) (n:=N-q) (step:=1);obtain⟨m,hm⟩:∃m,N-q=m+1:=⟨N-q-1,by omega⟩;rw[hm,qB6]at h1;simp only[qBQ,qDH]at h1;rw[show N-(q+1)=m by omega,h1,show q+(m+1)=N by omega]
 rw[e,List.flatMap_append,qAO];rw[qd4 w _ _ _ (by omega),show jh w ((List.range q).flatMap B)=jh (fun v=>jh w (B v)) (List.range' 0 q) by rw[JS,qBI],if_neg (by omega),qd4 w _ _ _ (by omega),if_pos (by omega)];congr 1;omega
def Y8(f:List Int->Nat):∀(N) (L),(L.Pairwise fun x y=>f x<=f y)->(∀x∈L,f x<N)->L=(List.range N).flatMap fun v=>L.filter fun x=>decide (f x=v)
 | 0,L,_,h=>by
  have:L=[]:=qBY.2 fun x hx=>by have:=h x hx;omega
  subst this;rfl
 | N+1,L,hp,h=>by
  rw[qBF,List.flatMap_append];have hsplit:∀L:List (List Int),(L.Pairwise fun x y=>f x<=f y)->(∀x∈L,f x<N+1)->L=(L.filter fun x=>decide (f x<N))++L.filter fun x=>decide (f x=N):=by
   intro L
   induction L with
   |nil=>intro _ _;rfl
   | cons x L ih=>
    intro hp h;rw[qDk]at hp;have hx:=h x (by simp);by_cases hxN:f x<N
    . have e1:decide (f x<N)=true:=(by simp[hxN]);have e2:decide (f x=N)=false:=(by simp;omega);rw[qC2,if_pos e1,qC2,if_neg (by rw[e2];simp),qAL,<- ih hp.2 fun y hy=>h y (by simp[hy])]
    have hall:∀y∈x::L,f y=N:=fun y hy=>by
     rcases qAM.1 hy with rfl|hy
     . omega
     have:=hp.1 y hy;have:=h y (by simp[hy]);omega
    have e1:(x::L).filter (fun x=>decide (f x<N))=[]:=by
     rw[List.filter_eq_nil_iff];intro y hy;simp[hall y hy]
    have e2:(x::L).filter (fun x=>decide (f x=N))=x::L:=by
     rw[List.filter_eq_self];intro y hy;simp[hall y hy]
    rw[e1,e2];rfl
  have ih:=Y8 f N (L.filter fun x=>decide (f x<N)) (hp.filter _) (fun x hx=>by
   rw[qBu,decide_eq_true_eq]at hx;exact hx.2)
  have e:((List.range N).flatMap fun v=>(L.filter fun x=>decide (f x<N)).filter fun x=>decide (f x=v))=(List.range N).flatMap fun v=>L.filter fun x=>decide (f x=v):=by
   rw[qBM,qBM];congr 1;refine qBv fun v hv=>?_
   rw[List.filter_filter];refine qDV fun x _=>?_
   have:=qBq.1 hv;by_cases hx:f x=v
   . simp[hx,this]
   simp[hx]
  rw[e]at ih
  conv=>lhs;rw[hsplit L hp h]
  rw[ih];simp
def qrz{fx i v}(hf:fx i=none){g}(hi:i∈g)(x):okF (yH fx i v) g x=(okF fx g x&&decide (aN x i=v)):=by
 unfold okF;rw[qBd,qAr,qAv,qAv,decide_eq_true_eq];constructor
 . intro h;refine⟨fun j hj=>?_,?_⟩
   . by_cases hji:j=i
     . subst hji;rw[hf];rfl
     . have:=h j hj
       rwa[Y1 hji]at this
   have:=h i hi;rw[qdR]at this;simpa using this
 rintro⟨h1,h2⟩ j hj;by_cases hji:j=i
 . subst hji;rw[qdR];simpa using h2
 rw[Y1 hji];exact h1 j hj
def qsI{p:Problem}(hv:qk p=0){a:List Int}{gi:Nat}{g:List Nat}(hgd:(NG p).getD gi []=g)(hgn:g.Nodup)(hgm:∀i∈g,i∈(NG p).flatten){C:List (List Int)}(hR:Reps p (qE p).1 g (QR p a gi) C) :
 ∀ (l:List Nat) (fx:Nat->Option Nat) (idx:Int) (out:List Int),l.Nodup->(∀i∈l,fx i=none/\i∈g/\i<out.length)->(C.filter (okF fx g)).Pairwise (fun x y=>jo x y (l.map fun n:Nat=>(n:Int))=true) ->
  0<=idx->idx<(jh (fun x=>jJ p (aN x) g) (C.filter (okF fx g)):Nat)->jh (fun x=>jJ p (aN x) g) (C.filter (okF fx g))<lim ->
  ∀i∈l,(chP p a gi l fx idx out)[i]?=some (aN (sel (fun x=>jJ p (aN x) g) (C.filter (okF fx g)) idx) i:Int):=by
 have hT:∀fx,yx p (qE p).1 fx g (QR p a gi)=jh (fun x=>jJ p (aN x) g) (C.filter (okF fx g)):=fun fx=>by
  rw[Y2 hv fx g _ C hgm (fun q hq=>by
   obtain⟨i,hi,rfl⟩:=qAN.1 hq;obtain⟨l,h1,h2⟩:=qAX.1 hi;exact qAX.2 ⟨l,qBa h1,h2⟩) hR,vS]
 intro l
 induction l with
 |nil=>intro fx idx out _ _ _ _ _ _ i hi;cases hi
 | cons i r ih=>
  intro fx idx out hl hm hord h0 h1 h2;rw[qCi]at hl;obtain⟨hfi,hig,hio⟩:=hm i (by simp);have hfil:∀v,C.filter (okF (yH fx i v) g)=(C.filter (okF fx g)).filter fun x=>decide (aN x i=v):=fun v=>by
   rw[List.filter_filter];refine qDV fun x _=>?_
   rw[qrz hfi hig,Bool.and_comm]
  have hsp:=Y3 (p:=p) (R:=(qE p).1) hfi g (QR p a gi) hgn hig;rw[hT]at hsp;have hle:∀x,x<2^jz p i->yx p (qE p).1 (yH fx i x) g (QR p a gi)<=jh (fun x=>jJ p (aN x) g) (C.filter (okF fx g)):=fun x hx=>by
   rw[hsp];exact qi4 (f:=fun x=>yx p (qE p).1 (yH fx i x) g (QR p a gi)) (qBq.2 hx)
  have hF:∀x,x<2^jz p i->qbQ p (yH fx i x) a gi=yx p (qE p).1 (yH fx i x) g (QR p a gi):=fun x hx=>by
   rw[Y6,hgd];have:=hle x hx;exact qBL (by unfold QR at this;omega)
  have hw:=qff p i;have hcong:∀m,m<=2^wdN p i->jh (fun x=>qbQ p (yH fx i x) a gi) (List.range' 0 m)=jh (fun v=>jh (fun x=>jJ p (aN x) g) ((C.filter (okF fx g)).filter fun x=>decide (aN x i=v))) (List.range' 0 m):=fun m hm=>by
   refine yo fun v hv'=>?_
   rw[<- qBI]at hv';have:=qBq.1 hv';rw[hF v (by rw[<- hw];omega),hT,hfil]
  have hsum:jh (fun x=>qbQ p (yH fx i x) a gi) (List.range' 0 (2^wdN p i))=jh (fun x=>jJ p (aN x) g) (C.filter (okF fx g)):=by
   rw[hsp,hw,<- qBI];exact yo fun x hx=>hF x (qBq.1 hx)
  obtain⟨⟨_,q1⟩,q2,q3,q4⟩:=Vq (fun x=>qbQ p (yH fx i x) a gi) (2^wdN p i) 0 idx h0 (by rw[hsum];exact h1);unfold chP;dsimp only;generalize yk (fun x=>qbQ p (yH fx i x) a gi) (2^wdN p i) 0 idx=q at *;rw[qBQ]at q1;rw[qDc,hcong _ (by omega)]at q4;have hq1:q.1<2^jz p i:=by rw[<- hw];exact q1
  rw[hF _ hq1,hT,hfil]at q3
  -- the choices,by the first variable's value
  have hmemC:∀x∈C.filter (okF fx g),x∈jV p.vars:=fun x hx=>(hR.sol x (qBu.1 hx).1).1
  have hmono:(C.filter (okF fx g)).Pairwise fun x y=>aN x i<=aN y i:=by
   refine hord.imp_of_mem ?_;intro x y hx hy h;rw[qAz]at h;unfold jo at h;rw[qAS,ZW hv (hmemC x hx) (hgm i hig),ZW hv (hmemC y hy) (hgm i hig)]at h;split at h
   . rename_i e;omega
   rename_i e;rw[decide_eq_true_eq]at h;omega
  have hflat:=Y8 (fun x=>aN x i) (2^jz p i) _ hmono fun x hx=>by
   obtain⟨y,e1,e2,e3⟩:=Ww hv (hmemC x hx) (hgm i hig);rw[e3];exact e2
  have hsel:sel (fun x=>jJ p (aN x) g) (C.filter (okF fx g)) idx=sel (fun x=>jJ p (aN x) g) ((C.filter (okF fx g)).filter fun x=>decide (aN x i=q.1)) q.2:=by
   conv=>lhs;rw[hflat]
   rw[q4];exact qmE _ (fun v=>(C.filter (okF fx g)).filter fun x=>decide (aN x i=v)) hq1 q2 q3
  have hin:=qd3 (fun x=>jJ p (aN x) g) _ q.2 q2 q3;have hord':(C.filter (okF (yH fx i q.1) g)).Pairwise fun x y=>jo x y (r.map fun n:Nat=>(n:Int))=true:=by
   rw[hfil];refine(hord.filter _).imp_of_mem ?_;intro x y hx hy h;rw[qBu,decide_eq_true_eq]at hx hy;rw[qAz]at h;unfold jo at h;rw[if_pos]at h
   . exact h
   rw[qAS,ZW hv (hmemC x hx.1) (hgm i hig),ZW hv (hmemC y hy.1) (hgm i hig),hx.2,hy.2]
  have hih:=ih (yH fx i q.1) q.2 (out.set i (q.1:Int)) hl.2 (fun k hk=>by
   obtain⟨a1,a2,a3⟩:=hm k (by simp[hk]);exact⟨by rw[Y1 (by rintro rfl;exact hl.1 hk)];exact a1,a2,by simpa using a3⟩) hord' q2 (by rw[hfil];exact q3) (by
    have:=hle _ hq1;rw[hT]at this;omega)
  rw[hfil]at hih;intro k hk;rw[hsel];rcases qAM.1 hk with rfl|hk
  . rw[qeT p a gi r _ _ _ k hl.1,qAt hio];rw[qBu,decide_eq_true_eq]at hin;rw[hin.2]
  exact hih k hk
def qcL(x):∀A B:List Int,qdA x A B=(qew A x).reverse++B
 |[],B=>by simp[qdA,qew]
 | a::A,B=>by
  unfold qdA qew;split
  . rw[qcL x A];simp
  simp
def qd0(l):zN l=wc l:=by
 unfold zN wc;congr 1;funext S x;rw[qcL];simp[qex]
def qqP(g):zN (g.map fun n:Nat=>(n:Int))=(yQ g).map fun n:Nat=>(n:Int):=by
 rw[qd0,qaj]
def qfx(c):∀(g:List Nat) (a) (i),i<a.length->(qdw c (g.map fun n:Nat=>(n:Int)) a)[i]?=if i∈g then some (c.getD i 0) else a[i]?
 |[],a,i,h=>by simp[qdw]
 | j::g,a,i,h=>by
  show(qdw c (g.map fun n:Nat=>(n:Int)) (a.set ((j:Nat):Int).toNat (c.getD ((j:Nat):Int).toNat 0)))[i]?=_;rw[qAS,qfx c g _ i (by simpa using h)];by_cases hg:i∈g
  . rw[if_pos hg,if_pos (by simp[hg])]
  rw[if_neg hg];by_cases hj:i=j
  . subst hj;rw[if_pos (by simp),qAt h]
  rw[if_neg (by simp[hg,hj]),qAp (Ne.symm hj)]
def vt(g)(C:List (List Int)):C.filter (okF (fun _=>none) g)=C:=by
 rw[List.filter_eq_self];intro x _;exact qfZ g x
def qlf(p gi a k):QL p gi a k=yE p gi a k:=by
 have ht:=Vl p gi a;unfold QL yE;rw[ht];dsimp only;by_cases he:(jX p gi a).2=0
 case neg=>rw[if_pos he,if_pos he]
 simp only[he,ne_eq,not_true_eq_false,if_false];by_cases hk:k<0\/(jX p gi a).1<=k
 . simp only[if_pos hk]
 simp only[if_neg hk];have h0:(qE p).2=0:=by
  apply Classical.byContradiction;intro hn;unfold jX at he;rw[if_pos hn]at he;exact hn he
 rw[show jX p gi a=JQ p gi a by unfold jX;rw[if_neg (fun e=>e h0)]]at he hk;obtain⟨g0,g1,has,_,_⟩:=qad he;obtain⟨hv,_,_,_⟩:=wK h0;obtain⟨n,rfl⟩:=qAH g0;rw[qAS]at g1⊢;obtain⟨t1,t2,t3,t4,t5⟩:=qqI he;change (JQ p n a).1=(qhe p a n:Nat) at t3;change qhe p a n<lim at t5;obtain⟨g,hg,hgd,hgn,hgm⟩:=qyC hv g1;have haA:=Qs has;have hal:=(ko.1 haA).len;have hch:=qa6 h0 hg haA;have hsum:=qac h0 hg haA;rw[t3]at hk;have hne:qeR p n a≠[]:=fun e=>by rw[hsum,e]at hk;simp[jh]at hk;omega
 have hpv:=Vk h0 hg has;rw[if_neg hne,if_pos (by unfold lim at t5;omega)]at hpv;have hG:p.groups.getD n []=g.map fun n:Nat=>(n:Int):=by
  rw[ZX hv,qAx,qAR,hg];rfl
 rw[hpv,hG];dsimp only;rw[qjf (fun x=>jJ p (aN x) g)];have hk0:=qEs.1 fun e=>hk (.inl e)
 have hk1:=Int.not_le.1 fun e=>hk (.inr e)
 have hmem:=qd3 (fun x=>jJ p (aN x) g) (qeR p n a) k hk0 (by rw[<- hsum];exact hk1);have hsel:=qsI hv hgd hgn hgm hch.reps (yQ g) (fun _=>none) k a (qd1 hgn) (fun i hi=>by
  obtain⟨v,hv',_⟩:=yA hv (hgm i (wJ.1 hi));have:=(qAm.1 hv').1;exact⟨rfl,wJ.1 hi,by rw[hal];exact this⟩) (by rw[vt,<- qqP];exact hch.ord) hk0 (by rw[vt,<- hsum];exact hk1) (by rw[vt,<- hsum];exact t5)
 rw[vt]at hsel;generalize sel (fun x=>jJ p (aN x) g) (qeR p n a) k=c at *;have hce:Qo p n a k=chP p a n (yQ g) (fun _=>none) k a:=by unfold Qo;rw[hgd]
 refine Prod.ext ?_ rfl;dsimp only;apply qBn;intro i;by_cases hi:i<a.length
 . rw[qfx c g a i hi];by_cases hig:i∈g
   . rw[if_pos hig,hce,hsel i (wJ.2 hig),ZW hv (hch.all c hmem).1 (hgm i hig)]
   rw[if_neg hig,hce,qeT p a n _ _ _ _ i fun h=>hig (wJ.1 h)]
 rw[qAU (by rw[Yx];omega),qAU (by rw[Zn];omega)]
def Kk:∀(n) (l),l.length=n->l.Pairwise (· < ·)->(Qz l).length<=(l.filter fun x=>!decide (x-1∈l)).length/\∀r,(Qz l).getLast?=some r->r.2∈l/\∀y∈l,y<=r.2
 | 0,l,h,_=>by
  have:=qAA h;subst this;exact⟨by simp[Qz],fun r hr=>by simp[Qz]at hr⟩
 | n+1,l,h,hp=>by
  obtain⟨d,x,rfl⟩:∃d x,l=d++[x]:=⟨l.dropLast,l.getLast (by rintro rfl;simp at h),(qBB _).symm⟩;rw[qDz]at hp;obtain⟨hp1,_,hp2⟩:=hp;have hlt:∀y∈d,y<x:=fun y hy=>hp2 y hy x (by simp)
  obtain⟨i1,i2⟩:=Kk n d (by simpa using h) hp1;have hr:Qz (d++[x])=vB (Qz d) x:=by unfold Qz;rw[qBj];rfl
  have hf:((d++[x]).filter fun y=>!decide (y-1∈d++[x])).length=(d.filter fun y=>!decide (y-1∈d)).length+if x-1∈d then 0 else 1:=by
   rw[qDh,qAq];congr 1
   . congr 1;refine qDV fun y hy=>?_
     have:=hlt y hy;have e:(y-1∈d++[x])↔y-1∈d:=by
      rw[qAC,qA2];exact⟨fun h=>h.resolve_right (by omega),.inl⟩
     simp only[e]
   have e:(x-1∈d++[x])↔x-1∈d:=by
    rw[qAC,qA2];exact⟨fun h=>h.resolve_right (by omega),.inl⟩
   rw[qC2];simp only[e];by_cases hx:x-1∈d<;>simp[hx]
  rw[hr,hf];unfold vB
  cases hl:(Qz d).getLast? with
  | none=>
   have hn:Qz d=[]:=qCJ.1 hl;have hd:d=[]:=qBY.2 fun y hy=>by
    obtain⟨r,hr,_⟩:=(qfB y d).2 hy;rw[hn]at hr;cases hr
   subst hd;simp[Qz]
  | some r=>
   dsimp only;obtain⟨a1,a2⟩:=i2 r hl;by_cases he:r.2=x-1
   . rw[if_pos he];obtain⟨m,hm⟩:=qCK.1 hl;rw[hm,qDB];rw[hm]at i1;simp only[qAq,qAD,qBh]at i1⊢;refine⟨by omega,fun q hq=>?_⟩;simp at hq;subst hq;refine⟨by simp,fun y hy=>?_⟩;rcases qAC.1 hy with hy|hy
     . have:=hlt y hy;dsimp only;omega
     have:y=x:=by simpa using hy
     dsimp only;omega
   rw[if_neg he];have hx:¬x-1∈d:=fun hx=>by
    have h1:=a2 _ hx;have h2:=hlt _ a1;omega
   rw[if_neg hx];simp only[qAq,qAD,qBh];refine⟨by omega,fun q hq=>?_⟩;simp at hq;subst hq;refine⟨by simp,fun y hy=>?_⟩;rcases qAC.1 hy with hy|hy
   . have:=hlt y hy;dsimp only;omega
   have:y=x:=by simpa using hy
   dsimp only;omega
def qhF{x y}:∀{l:List Weight},(∀w∈l,inW x w=inW y w)->vI l x=vI l y:=by
 intro l h;unfold vI;have:l.find? (inW x)=l.find? (inW y):=by
  induction l with
  |nil=>rfl
  | cons w l ih=>
   rw[qCU,qCU,h w (by simp),ih fun z hz=>h z (by simp[hz])]
 rw[this]
def qmI(v l):(Qz (Zv v l)).length<=2*l.length+1:=by
 obtain⟨hp,hr⟩:=qag v l;have h1:=(Kk _ _ rfl hp).1;have hn:((Zv v l).filter fun x=>!decide (x-1∈Zv v l)).Nodup:=(hp.imp fun h e=>by omega:(Zv v l).Pairwise (·≠·)).filter _;have hsub:∀x∈(Zv v l).filter fun x=>!decide (x-1∈Zv v l),x∈(0:Int)::l.flatMap fun w=>[w.lo,w.hi+1]:=fun x hx=>by
  rw[qBu]at hx;obtain⟨hx1,hx2⟩:=hx;have hx2:¬x-1∈Zv v l:=by simpa using hx2
  have hx3:=hr x hx1;by_cases h0:x=0
  . simp[h0]
  have hpx:=(qBu.1 hx1).2;have hpy:vI l (x-1)=false:=by
   rw[qBD];intro hy;refine hx2 (qBu.2 ⟨?_,hy⟩);exact qAN.2 ⟨(x-1).toNat,qBq.2 (by omega),by omega⟩
  have:¬∀w∈l,inW x w=inW (x-1) w:=fun h=>by
   have:=qhF h;rw[hpx,hpy]at this;cases this
  have:∃w∈l,inW x w≠inW (x-1) w:=by
   apply Classical.byContradiction;intro hn;exact this fun w hw=>Classical.byContradiction fun he=>hn ⟨w,hw,he⟩
  obtain⟨w,hw,hne⟩:=this;refine qBT _ (qD6.2 ⟨w,hw,?_⟩);by_cases e1:x=w.lo
  . simp[e1]
  by_cases e2:x=w.hi+1
  . simp[e2]
  exfalso;refine hne ?_;unfold inW;rw[show decide (w.lo<=x)=decide (w.lo<=x-1) by rw[decide_eq_decide];omega,show decide (x<=w.hi)=decide (x-1<=w.hi) by rw[decide_eq_decide];omega]
 have h2:=Kz hn hsub;have h3:(l.flatMap fun w=>[w.lo,w.hi+1]).length=2*l.length:=by
  clear h1 h2 hn hsub hp hr
  induction l with
  |nil=>rfl
  |cons w l ih=>rw[qAO,qAq,ih];simp;omega
 rw[qAD,h3]at h2;omega
def qsp{p}(h:VM p){b}(hb:b<=18)(hf:qn7 p b=true):RfH p:=by
 obtain⟨hr,hvp⟩:=qkN h hb hf;unfold qn7 at hf;simp only[qAr]at hf;have hs:=hf.1;simp only[jR,qAr,qBO,qCI,decide_eq_false_iff_not,qAv,decide_eq_true_eq]at hs;obtain⟨⟨⟨⟨⟨⟨⟨⟨a1,a2⟩,a3⟩,a4⟩,a5⟩,b1⟩,b2⟩,b3⟩,b4⟩:=hs;refine⟨hr.q,by have:=hvp.flat;omega,hr.dl,hr.sl,fun d hd v=>?_⟩;have:=qmI v d.weights;have:=b3 d hd;omega
def qn6{p}(hr:RnH p)(hv:qk p=0)(hb:kl p.vars (qK p)<=10):(NG p).flatten.length<=12:=qhm hr hv hb
def qbZ(p):(((QV p).1.length:Nat),(QV p).2)=ju p:=by
 unfold QV ju;by_cases h:(qE p).2=0
 . rw[if_pos h,if_neg (fun e=>e h)];unfold qqQ;rw[List.countP_eq_length_filter]
 rw[if_neg h,if_pos h];rfl
def qqG(p l k)(h:VM p)(hl:Fits l)(hk:Fits k):Pure prog GG 3 [.agg (qt p),.sl 1 (l.map qh) .none,.sl 1 (k.map qh) .none] (.bool true):=by
 refine qEG qe func3 rfl (by kernel_rfl) ?_;have hs:=qyr p h 10;simp only[qt]at hs;simp[-getElem?_pos];refine qEJ hs (by simp) ?_
 cases hso:qn7 p 10 with
 | false=>
  simp[-getElem?_pos,unA];refine qEJ V3 (by simp) ?_;simp[-getElem?_pos]
 | true=>
  by_cases hl40:40<l.length
  . have hl':(40:Int)<l.length:=(by omega);simp[-getElem?_pos,unA,hl'];refine qEJ V3 (by simp) ?_;simp[-getElem?_pos]
  have hl':¬(40:Int)<l.length:=by omega
  by_cases hk2:k.length=2
  case neg=>
   have hk':¬(k.length:Int)=2:=(by omega);simp[-getElem?_pos,unA,hl',hk'];refine qEJ V3 (by simp) ?_;simp[-getElem?_pos]
  obtain⟨x,y,rfl⟩:∃x y,k=[x,y]:=by
   match k,hk2 with
   |[x,y],_=>exact⟨x,y,rfl⟩
  obtain⟨hr,hvp⟩:=qkN h (by decide) hso;have hrf:=qsp h (by decide) hso;have hb:kl p.vars (qK p)<=10:=by
   unfold qn7 at hso;simp only[qAr,decide_eq_true_eq]at hso;exact hso.2
  have hl12:=fun hv=>qn6 hr hv hb
  have s2:=qyh p l hr.q.vars hl;have hff:Fits (VJ p.vars l):=by unfold Fits;rw[YE];have:=hr.q.vars;omega
  generalize VJ p.vars l=a at *;have t1:=qlS p hr x a;have t2:=qqH p hrf hvp hr x a hff;have c1:=qgS p hr hl12 x a y;have c2:=qox p hrf hvp hr x a hff y;have n1:=WB p hr;have n2:=qd2 p hrf hr.bits;have hcl:Fits (yE p x a y).1:=by
   unfold yE;split
   . simp[Fits]
   split
   . simp[Fits]
   unfold Fits;rw[Zn];exact hff
  have hsame:=qhs (yE p x a y).1 (yE p x a y).1 hcl;rw[decide_eq_true rfl]at hsame;rw[qlf]at c2;have hpt:=Vl p x a;rw[hpt]at t2;have hse:=qbZ p;have e1:=congrArg Prod.fst hse;have e2:=congrArg Prod.snd hse;dsimp only at e1 e2;rw[e1,e2]at n2;generalize jX p x a=to at *;generalize yE p x a y=ch at *;generalize ju p=so at *;simp only[qt]at s2 t1 t2 c1 c2 n1 n2;simp[-getElem?_pos,unA,hl'];refine qEJ s2 (by simp) ?_;simp[-getElem?_pos];refine qEJ t1 (by simp) ?_;simp[-getElem?_pos];refine qEJ t2 (by simp) ?_;simp[-getElem?_pos];refine qEJ c1 (by simp) ?_;simp[-getElem?_pos];refine qEJ c2 (by simp) ?_;simp[-getElem?_pos];refine qEJ n1 (by simp) ?_;simp[-getElem?_pos];refine qEJ n2 (by simp) ?_;simp[-getElem?_pos];refine qEJ hsame (by simp) ?_;simp[-getElem?_pos];refine qEJ V3 (by simp) ?_;simp[-getElem?_pos]
def qmx{H:Type}{enc:TypeId×Value->H}{W W':World}{v:Value}{d:DataW H}{ps:List MemPlace}{sp:Nat->Bool}(h:DataW.Trod enc prog W 0 (fun _=>true) true 27 v d ps)(hb:Go.RowKit.Below W.heap.size W W')(hlt:∀x∈ps,x.block<W.heap.size)(hs:∀p∈ps,sp p.block=true) :
 DataW.Trod enc prog W' 0 sp true 27 v d ps :=
 WideElems.Trod_stays KM (by kernel_rfl) (of_decide_eq_true (by kernel_rfl)) h (fun x hx=>hb.same (hlt x hx)) hs
def qfq{H:Type}{enc:TypeId×Value->H}{W W':World}{v:Value}{d:DataW H}{ps:List MemPlace}{sp:Nat->Bool}(h:DataW.Trod enc prog W 0 (fun _=>true) true 28 v d ps)(hb:Go.RowKit.Below W.heap.size W W')(hlt:∀x∈ps,x.block<W.heap.size)(hs:∀p∈ps,sp p.block=true) :
 DataW.Trod enc prog W' 0 sp true 28 v d ps :=
 WideElems.Trod_stays KM (by kernel_rfl) (of_decide_eq_true (by kernel_rfl)) h (fun x hx=>hb.same (hlt x hx)) hs
def qrO(os:Os)(started:os.Started)(H:Type)(enc:TypeId×Value->H) :
 ReturnsInHanded {} Tryz.checked os 3 .any (fun w args=>(Rows.randomTotalsSpec.pre enc prog Tryz.f3 [] false w args/\laidMetH prog qhX w)/\sizedMet enc prog Tryz.f3 (OpenSpec.ofChange Rows.randomTotalsSpec) false w args)
  (Rows.randomTotalsSpec.post enc prog Tryz.f3 false true false false):=by
 refine returnsInHanded_of_change_and (C:=Tryz.checked) (X:=fun w _=>laidMetH prog qhX w) (fun _ _ _ hh h=>h.of_heap hh) qrq started (by kernel_rfl) func3
  (ChangeSpec.witness_shaped (enc:=enc) (C:=Tryz.checked) (os:=os) (X:=fun w _=>laidMetH prog qhX w) false (World.doorLaid prog 400 os) #[.agg #[.slice none 0 0,.slice none 0 0,.slice none 0 0,.slice none 0 0,.slice none 0 0],.slice none 0 0,.slice none 0 0] 8 rfl (World.shaped_of_RefB (by kernel_rfl) (by kernel_rfl)) (by kernel_rfl) (by kernel_rfl) (by kernel_rfl) (qoh os _)) ?_
 intro W base args ds gs before hval0 hW _ hWt hL _;have hval:∀(j:Nat) t v,Tryz.f3.params[j]?=some t->args[j]?=some v->Value.okWide prog W .any base t v:=hval0;have hwt:(DataW.weightsEach prog (Tryz.f3.params.toList++Rows.randomTotalsSpec.plain.varTypes prog) (ds++gs)).all (·<=reachBytes)=true:=hWt;have hW':=hW;obtain⟨p,q,hA0,hV,rfl,hfz,hnd⟩:=hW;have hA:DataW.TrodAll enc prog W 0 (fun _=>true) true Tryz.f3.params.toList args.toList ds p:=hA0;rw[Tryz.params3]at hA hval hwt;obtain⟨v0,v1,v2,d0,d1,d2,p0,p1,p2,rfl,rfl,rfl,h0,h1,h2⟩:=trodAll_three hA;obtain⟨rfl,rfl⟩:=trodVars_none hV;have hv0:=hval 0 27 v0 rfl rfl;unfold Value.okWide at hv0;rw[underlying27]at hv0;obtain⟨cs0,rfl,_,_⟩:=hv0;have h0':=h0;obtain⟨fuel0,hf0⟩:=h0;have hw0:∀k∈d0.weights prog 27,k<=reachBytes:=fun k hk=>of_decide_eq_true (qAv.1 hwt k (DataW.weights_mem_each (j:=0) (t:=27) rfl rfl k hk))
 obtain⟨x0,hrel0,hg0⟩:=rdP hf0 hw0;have hv1:=hval 1 28 v1 rfl rfl;obtain⟨a1,len1,cap1,rfl⟩:=okWide_slice underlying28 hv1;have h1':=h1;obtain⟨fuel1,hf1⟩:=h1;obtain⟨x1,hrel1,hg1⟩:=qph hf1;simp only[qx,qj]at hrel1;obtain⟨w1,r1,e1,hrel1,er1⟩:=hrel1;obtain rfl:w1=.slice a1 len1 cap1:=(List.cons.inj e1).1.symm;have hv2:=hval 2 28 v2 rfl rfl;obtain⟨a2,len2,cap2,rfl⟩:=okWide_slice underlying28 hv2;have h2':=h2;obtain⟨fuel2,hf2⟩:=h2;obtain⟨x2,hrel2,hg2⟩:=qph hf2;simp only[qx,qj]at hrel2;obtain⟨w2,r2,e2,hrel2,er2⟩:=hrel2;obtain rfl:w2=.slice a2 len2 cap2:=(List.cons.inj e2).1.symm;have hpure:=qqG x0 x1 x2 hg0 hg1 hg2;have hargs:qj (KMw W) [.agg (qt x0),.sl 1 (x1.map qh) .none,.sl 1 (x2.map qh) .none] (#[Value.agg cs0,Value.slice a1 len1 cap1,Value.slice a2 len2 cap2]:Array Value).toList:=by
  simp only[qj];have g0:qi (KMw W) (.agg (qt x0)) (Value.agg cs0):=by
   unfold qi;exact⟨cs0,rfl,hrel0⟩
  have g1:qi (KMw W) (.sl 1 (x1.map qh) .none) (Value.slice a1 len1 cap1):=by
   exact hrel1
  have g2:qi (KMw W) (.sl 1 (x2.map qh) .none) (Value.slice a2 len2 cap2):=by
   exact hrel2
  exact⟨_,_,rfl,g0,_,_,rfl,g1,_,_,rfl,g2,rfl⟩
 refine(hpure.2 W (qhv W) #[Value.agg cs0,Value.slice a1 len1 cap1,Value.slice a2 len2 cap2] (qkx hL) (fun _ _ _ e=>e) hargs).mono ?_;rintro e W' ⟨v,ro',rfl,hb,_,_,_,hv⟩;have hv1:v=.bool true:=by simpa only[qi] using hv
 subst hv1;have hW2:=hW';simp only[qA6]at hW2;have hlt:=fun x hx=>hW2.lt x hx
 refine⟨_,rfl,[d0,d1,d2],[],p0++(p1++p2),[],p0++(p1++p2),[],(by simpa only[qA4] using hW2),?_,?_,?_,hb.frame _,fun h=>by cases h⟩
 . exact trodAll_mk1 (shut_bool underlying4 true)
 . exact trodAll_mk3 (qmx h0' hb (fun x hx=>hlt x (qA7 _ (qA7 _ hx))) (fun x hx=>by simpa using hlt x (qA7 _ (qA7 _ hx)))) (qfq h1' hb (fun x hx=>hlt x (qA7 _ (qBA _ hx))) (fun x hx=>by simpa using hlt x (qA7 _ (qBA _ hx)))) (qfq h2' hb (fun x hx=>hlt x (qBA _ hx)) (fun x hx=>by simpa using hlt x (qBA _ hx)))
 rfl
def fn3 : prog.funcNamed "testbench/testbenchlaw23.RandomTotals" = some 3 := by kernel_rfl
def qyc:Tryz.f3.isInstance prog Rows.randomTotalsRow.origin Rows.randomTotalsRow.targs:=of_decide_eq_true (by kernel_rfl)
def qw9:Tryz.f3.isWrapper prog Rows.randomTotalsRow.wrapper Rows.randomTotalsRow.mainSum:=by unfold Func.isWrapper;first|(rw[if_pos (by decide +kernel)];kernel_rfl)|(rw[if_neg (by decide +kernel)];exact⟨rfl,rfl⟩)
def WP:(Rows.randomTotalsRow.inPlace==prog.inPlace 3)=true:=by kernel_rfl
def Jy:(Rows.randomTotalsRow.unfollowed==prog.unfollowed 3)=true:=by kernel_rfl
def Wc:(Rows.randomTotalsRow.recurses==prog.recurses 3)=true:=by kernel_rfl
def qc4:(Rows.randomTotalsRow.named==prog.varsNamed 3)=true:=by kernel_rfl
def qeK:(Rows.randomTotalsRow.wf (OpenSpec.ofChange Rows.randomTotalsSpec)&&laidOutB prog&&mapsRowed prog &&
 Tryz.f3.params.all (prog.readableRec ·)&&namedTie prog Rows.randomTotalsRow.named Rows.randomTotalsSpec.vars &&
 (Rows.randomTotalsRow.stops == [])&&(prog.stops == [])&&(Rows.randomTotalsRow.knobs == [])&&(prog.stopKnobs == []))=true:=by kernel_rfl
def qeJ:((Rows.randomTotalsRow.maps==(Tryz.f3.params.toList++Rows.randomTotalsSpec.plain.varTypes prog).any (prog.mapsRec ·))&&(Rows.randomTotalsRow.ifaces==(Tryz.f3.params.toList++Rows.randomTotalsSpec.plain.varTypes prog).any (prog.ifacesRec ·))&&(Rows.randomTotalsRow.mapsOut==prog.mapsAmong Tryz.f3.resultTypes.toList) &&
 (Rows.randomTotalsRow.loops==(Tryz.f3.params.toList++Rows.randomTotalsSpec.plain.varTypes prog).any (prog.loopsFrom ·))&&(Rows.randomTotalsRow.wideKeys==(Tryz.f3.params.toList++Rows.randomTotalsSpec.plain.varTypes prog++Tryz.f3.resultTypes.toList).any (prog.wideKeysFrom ·)) &&
 Rows.randomTotalsSpec.vars.all (prog.varReadable ·)&&Tryz.f3.resultTypes.all (fun t=>prog.readableRec t&&decide (t<prog.types.size))&&(Rows.randomTotalsRow.ifacesOut==Tryz.f3.resultTypes.toList.any (prog.ifacesRec ·))&&(Rows.randomTotalsRow.loopsOut==Tryz.f3.resultTypes.toList.any (prog.loopsFrom ·))&&(Rows.randomTotalsRow.plainKeys==prog.plainKeys)&&Rows.randomTotalsRow.shortTexts.isNone&&prog.stopsHeard&&prog.mayEnter&&(Rows.randomTotalsRow.lifted==prog.liftsFinal)&&(prog.make==some Rows.randomTotalsRow.make))=true:=by kernel_rfl
def qh7:((Rows.randomTotalsRow.kinds==(if Rows.randomTotalsRow.domain.isEmpty then [] else Tryz.f3.params.toList.map fun t=>match prog.underlying t with|some (.int k)=>some k|_=>none))&&(Rows.randomTotalsRow.pinned==Rows.randomTotalsRow.pinnedBy) &&
 (Rows.randomTotalsRow.veiled==(Tryz.f3.params.toList++Rows.randomTotalsSpec.plain.varTypes prog++Tryz.f3.resultTypes.toList).any (prog.veiledRec ·))&&Rows.randomTotalsRow.veiledFits prog Tryz.f3.params.toList (Tryz.f3.params.toList++Rows.randomTotalsSpec.plain.varTypes prog++Tryz.f3.resultTypes.toList))=true:=by kernel_rfl
def qu9:joinedFacts prog 3 Tryz.f3 Rows.randomTotalsSpec Rows.randomTotalsRow=true:=by
 have h1:=qeK;have h2:=qeJ;have h3:=qh7;simp only[Bool.and_eq_true,and_assoc]at h1 h2 h3;unfold joinedFacts;simp only[Bool.and_eq_true,and_assoc];obtain⟨a1,a2,a3,a4,a5,a6,a7,a8,a9⟩:=h1;obtain⟨b1,b2,b3,b4,b5,b6,b7,b8,b9,b10,b11,b12,b13,b14,b15⟩:=h2;obtain⟨c1,c2,c3,c4⟩:=h3;exact⟨a1,a2,a3,a4,a5,a6,a7,a8,a9,WP,Jy,Wc,qc4,b1,b2,b3,b4,b5,b6,b7,b8,b9,b10,b11,b12,b13,b14,b15,c1,c2,c3,c4⟩
def Yj:Rows.RandomTotalsSaid :=
 OpenClaim.holds_of_wide 3 Tryz.f3 rfl rfl rfl rfl rfl rfl rfl ⟨rfl,rfl,rfl,rfl,rfl⟩ rfl rfl rfl rfl rfl fn3 Tryz.func3 qu9 qyc qw9
  (fun os started H enc _=>qrO os started H enc)
