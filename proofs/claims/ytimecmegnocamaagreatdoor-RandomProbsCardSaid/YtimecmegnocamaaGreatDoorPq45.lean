import Derived.Test.YtimecmegnocamaaGreatDoorPq44
set_option maxRecDepth 100000
set_option maxHeartbeats 16000000
set_option linter.all false
set_option linter.defProp false
namespace Go.Proofs.YtimecmegnocamaaGreatDoor
open Go Go.Abs Proofs.Tryz
def qfD(n:Nat)(h:n<9223372036854775808):Pure prog GG 84 [.int .i64 n] (.int .u64 n):=by
 refine qFm qg func84 rfl (by kernel_rfl) ?_;have h1:=wru (n:=n) (by omega) (by omega);simp[show ¬(n:Int)<0 by omega,wK,h1]
def qee:∀(b a:Nat),a<18446744073709551616->b<18446744073709551616->Pure prog GG 85 [.int .u64 a,.int .u64 b] (.int .u64 (Nat.gcd a b:Nat)):=by
 intro b a ha hb;refine qFm qg func85 rfl (by kernel_rfl) ?_;simp;refine qFu (fun n ev U=>∃x y:Nat,n=y/\x<18446744073709551616/\y<18446744073709551616/\ev 0=.int .u64 x/\ev 1=.int .u64 y/\Nat.gcd x y=Nat.gcd a b) b ⟨a,b,rfl,ha,hb,by simp⟩ ?_;rintro y ev U R hR ⟨x,_,rfl,hx,hy,h0,h1,hg⟩;by_cases hz:y=0
 . subst hz;simp at hg;simp[*]
 simp[*];refine hR (x%y) _ _ (qDo _ (by omega)) ⟨y,x%y,rfl,hy,qB3 (Nat.mod_le _ _) hx,by simp,by simp[qCf],?_⟩
 rwa[qDu y,<- qEW,qDu]
def qan(a b:Nat)(ha:a<9223372036854775808)(hb:b<9223372036854775808):Pure prog GG 43 [.int .i64 a,.int .i64 b] (.agg [.bool false,.int .u64 a,.int .u64 b]):=by
 refine qFm qg func43 rfl (by kernel_rfl) ?_;simp[show ¬(a:Int)<0 by omega,show ¬(b:Int)<0 by omega];refine qFp (qfD a ha) rfl ?_;simp;refine qFp (qfD b hb) rfl ?_;simp
def qtu(a b:Nat)(hb:0<b)(ha:a<18446744073709551616):zz .quo .u64 a b=some (.int .u64 (a/b:Nat)):=by
 have h:¬(b:Int)=0:=by omega
 simp only[zz];rw[if_neg h,qBT (by omega)];show some (AV.int .u64 (IntKind.u64.wrap (((a/b:Nat):Int))))=_;rw[wru (Int.natCast_nonneg _) (Int.ofNat_lt.2 (qB3 (qBQ _ _) ha))]
def Vs(n d:Nat)(hn:n<18446744073709551616)(hd:d<18446744073709551616)(h0:0<d):
 Pure prog GG 44 [.agg [.bool false,.int .u64 n,.int .u64 d]] (.agg [.bool false,.int .u64 (n/Nat.gcd n d:Nat),.int .u64 (d/Nat.gcd n d:Nat)]):=by
 refine qFm qg func44 rfl (by kernel_rfl) ?_;have hg:0<Nat.gcd n d:=qB4 _ h0;have h1:=qtu n _ hg hn;have h2:=qtu d _ hg hd;simp[-zz];refine qFp (qee d n hn hd) rfl ?_;generalize Nat.gcd n d=g at *;simp[*,-zz]
def Vt(n d:Nat):Nat×Nat×Nat:=if n<9223372036854775808/\d<9223372036854775808 then(n,d,0) else(0,0,3)
def qpC(n d:Nat)(hn:n<18446744073709551616)(hd:d<18446744073709551616):
 Pure prog GG 45 [.agg [.bool false,.int .u64 n,.int .u64 d]] (.tup [.agg [.int .i64 (Vt n d).1,.int .i64 (Vt n d).2.1],.int .i64 (Vt n d).2.2]):=by
 refine qFm qg func45 rfl (by kernel_rfl) ?_;unfold Vt;by_cases h1:n<9223372036854775808
 . have h1':¬(9223372036854775807:Int)<n:=(by omega);have w1:=wr (n:=n) (by omega) (by omega);by_cases h2:d<9223372036854775808
   . have h2':¬(9223372036854775807:Int)<d:=(by omega);have w2:=wr (n:=d) (by omega) (by omega);simp[*,wK]
   have h2':(9223372036854775807:Int)<d:=(by omega);simp[*]
 have h1':(9223372036854775807:Int)<n:=by omega
 simp[*]
def yt(a b:Nat):Nat×Nat:=(a/Nat.gcd a b,b/Nat.gcd a b)
def qpR(a b:Nat)(ha:a<9223372036854775808)(hb:b<9223372036854775808)(h0:0<b):
 Pure prog GG 19 [.int .i64 a,.int .i64 b] (.tup [.agg [.int .i64 (yt a b).1,.int .i64 (yt a b).2],.int .i64 0]):=by
 refine qFm qg func19 rfl (by kernel_rfl) ?_;have h1:a/Nat.gcd a b<9223372036854775808:=qB3 (qBQ _ _) ha;have h2:b/Nat.gcd a b<9223372036854775808:=qB3 (qBQ _ _) hb;have hr:=qpC (a/Nat.gcd a b) (b/Nat.gcd a b) (by omega) (by omega);have hre:=Vs a b (by omega) (by omega) h0;unfold Vt at hr;rw[if_pos ⟨h1,h2⟩]at hr;unfold yt;generalize a/Nat.gcd a b=x at *;generalize b/Nat.gcd a b=y at *;simp[show ¬b=0 by omega];refine qFp (qan a b ha hb) rfl ?_;simp;refine qFp hre rfl ?_;simp;refine qFp hr rfl ?_;simp
def qgC(a b c d):qa2 (Dof prog) 33 [.int .i64 a,.int .i64 b] [.int .i64 c,.int .i64 d]=some ((a==c)&&(b==d)):=by
 simp[qa2,Wg,kv,qV,z9,qCk,jj,kV]
def qfh(a b:Nat)(ha:a<9223372036854775808)(hb:b<9223372036854775808)(h0:0<b)(hc:Nat.gcd a b=1):
 Pure prog GG 86 [.agg [.int .i64 a,.int .i64 b]] (.bool true):=by
 refine qFm qg func86 rfl (by kernel_rfl) ?_;have hm:=qpR a b ha hb h0;unfold yt at hm;rw[hc,qD7,qD7]at hm;simp[show ¬(b:Int)<1 by omega];refine qFp hm rfl ?_;simp[qgC]
def qs6(a b c d:Nat)(ha:a<9223372036854775808)(hb:b<9223372036854775808)(h0:0<b)(hab:Nat.gcd a b=1)(hc:c<9223372036854775808)(hd:d<9223372036854775808)(h1:0<d)(hcd:Nat.gcd c d=1):
 Pure prog GG 47 [.agg [.int .i64 a,.int .i64 b],.agg [.int .i64 c,.int .i64 d]] (.bool true):=by
 refine qFm qg func47 rfl (by kernel_rfl) ?_;simp;refine qFp (qfh a b ha hb h0 hab) rfl ?_;simp;refine qFp (qfh c d hc hd h1 hcd) rfl ?_;simp
def qhG(a b c d:Nat):Nat:=(a/Nat.gcd a d)*(c/Nat.gcd c b)
def qhH(a b c d:Nat):Nat:=(b/Nat.gcd c b)*(d/Nat.gcd a d)
def Qc{a b c d:Nat}(hb:0<b)(hd:0<d)(hab:Nat.gcd a b=1)(hcd:Nat.gcd c d=1):Nat.gcd (qhG a b c d) (qhH a b c d)=1:=by
 have hg:0<Nat.gcd a d:=qB4 _ hd;have hh:0<Nat.gcd c b:=qB4 _ hb;exact Nat.Coprime.mul_left (Nat.Coprime.mul_right (Nat.Coprime.coprime_dvd_left (qDZ (qC4 a d)) (Nat.Coprime.coprime_dvd_right (qDZ (qCE c b)) hab)) (qDH hg)) (Nat.Coprime.mul_right (qDH hh) (Nat.Coprime.coprime_dvd_left (qDZ (qC4 c b)) (Nat.Coprime.coprime_dvd_right (qDZ (qCE a d)) hcd)))
def yk(a b c d:Nat):Nat×Nat×Nat:=Vt (qhG a b c d) (qhH a b c d)
def qhF(a b c d:Nat)(ha:a<9223372036854775808)(hb:b<9223372036854775808)(h0:0<b)(hab:Nat.gcd a b=1)(hc:c<9223372036854775808)(hd:d<9223372036854775808)(h1:0<d)(hcd:Nat.gcd c d=1):
 Pure prog GG 48 [.agg [.bool false,.int .u64 a,.int .u64 b],.agg [.bool false,.int .u64 c,.int .u64 d]] (.tup [.agg [.int .i64 (yk a b c d).1,.int .i64 (yk a b c d).2.1],.int .i64 (yk a b c d).2.2]):=by
 refine qFm qg func48 rfl (by kernel_rfl) ?_;have hg:0<Nat.gcd a d:=qB4 _ h1;have hh:0<Nat.gcd c b:=qB4 _ h0;have q1:=qtu a _ hg (by omega);have q2:=qtu c _ hh (by omega);have q3:=qtu b _ hh (by omega);have q4:=qtu d _ hg (by omega);have l1:a/Nat.gcd a d<=a:=qBQ _ _;have l2:c/Nat.gcd c b<=c:=qBQ _ _;have l3:b/Nat.gcd c b<=b:=qBQ _ _;have l4:d/Nat.gcd a d<=d:=qBQ _ _;have hcop:=Qc h0 h1 hab hcd;have p3:0<b/Nat.gcd c b:=qD8 (qDn h0 (qCE _ _)) hh;have p4:0<d/Nat.gcd a d:=qD8 (qDn h1 (qCE _ _)) hg;have g1:=qee d a (by omega) (by omega);have g2:=qee b c (by omega) (by omega);unfold yk;unfold qhG qhH at *;generalize Nat.gcd a d=g at *;generalize Nat.gcd c b=h at *;generalize a/g=A at *;generalize c/h=C at *;generalize b/h=B at *;generalize d/g=D at *;have hD:0<B*D:=qDF p3 p4;generalize hN:A*C=N at *;generalize hM:B*D=M at *;obtain⟨nh,nl,hn1,hn2⟩:∃nh nl,N=18446744073709551616*nh+nl/\nl<18446744073709551616:=⟨N/18446744073709551616,N%18446744073709551616,by omega,by omega⟩;obtain⟨mh,ml,hm1,hm2⟩:∃mh ml,M=18446744073709551616*mh+ml/\ml<18446744073709551616:=⟨M/18446744073709551616,M%18446744073709551616,by omega,by omega⟩;have m1:=qcB A C nh nl (by omega) (by omega) (by rw[hN];exact hn1) hn2;have m2:=qcB B D mh ml (by omega) (by omega) (by rw[hM];exact hm1) hm2;simp[-zz];refine qFp g1 (by simp) ?_;simp[-zz];refine qFp g2 (by simp) ?_;simp[-zz,q1,q2];refine qFp m1 (by simp) ?_;simp[-zz,q3,q4];refine qFp m2 (by simp) ?_;by_cases n0:nh=0
 . by_cases n1:mh=0
   . subst n0 n1;have e1:N=nl:=(by omega);have e2:M=ml:=(by omega);subst e1 e2;have hre:=Vs N M hn2 hm2 hD;rw[hcop,qD7,qD7]at hre;have hra:=qpC N M hn2 hm2;generalize Vt N M=rs at *;simp;refine qFp hre (by simp) ?_;simp;refine qFp hra (by simp) ?_;simp
   . have hr:Vt N M=(0,0,3):=(by unfold Vt;rw[if_neg (by omega)]);simp[hr,n0,n1]
 have hr:Vt N M=(0,0,3):=by unfold Vt;rw[if_neg (by omega)]
 simp[hr,n0]
def qyn(a b c d:Nat)(ha:a<9223372036854775808)(hb:b<9223372036854775808)(h0:0<b)(hab:Nat.gcd a b=1)(hc:c<9223372036854775808)(hd:d<9223372036854775808)(h1:0<d)(hcd:Nat.gcd c d=1):
 Pure prog GG 21 [.agg [.int .i64 a,.int .i64 b],.agg [.int .i64 c,.int .i64 d]] (.tup [.agg [.int .i64 (yk a b c d).1,.int .i64 (yk a b c d).2.1],.int .i64 (yk a b c d).2.2]):=by
 refine qFm qg func21 rfl (by kernel_rfl) ?_;simp;refine qFp (qs6 a b c d ha hb h0 hab hc hd h1 hcd) rfl ?_;simp;refine qFp (qan a b ha hb) rfl ?_;simp;refine qFp (qan c d hc hd) rfl ?_;simp;refine qFp (qhF a b c d ha hb h0 hab hc hd h1 hcd) rfl ?_;simp
def qs9(l:List Int)(i:Nat):Pure prog GG 158 [.sl 1 (l.map qh) .none,.int .i64 i] (.int .i64 ((l[i]?).getD 0)):=by
 refine qFm qg func158 rfl (by kernel_rfl) ?_;by_cases h:i<l.length
 . have h1:¬(l.length:Int)<=i:=(by omega);obtain⟨x,hx⟩:∃x,l[i]?=some x:=⟨_,qAW h⟩;simp[h1,hx]
 have h1:(l.length:Int)<=i:=by omega
 have hx:l[i]?=none:=qBs (by omega);simp[h1,hx]
def Y8(l:List Int)(hl:l.length<1000000):Pure prog GG 105 [.sl 1 (l.map qh) .none] (.sl 1 ((yQ l).map qh) .none):=by
 refine qFm qg func105 rfl (by kernel_rfl) ?_;simp;refine qFu (fun k ev U=>k<=l.length/\ev 0=.sl 1 ((l.take k).map qh) .none/\yQ (l.take k)=yQ l) l.length ⟨qA5 _,by simp,by simp⟩ ?_;rintro k ev U R hR ⟨hk,e0,ht⟩
 cases k with
 | zero=>
  simp[e0];simp at ht;simp[<- ht,yQ]
 | succ k=>
  have hkl:k<l.length:=by omega
  obtain⟨x,hx⟩:∃x,l[k]?=some x:=⟨_,qAW hkl⟩;have hsn:l.take (k+1)=l.take k++[x]:=by rw[qBi,hx];rfl
  have hq1:(l.take (k+1))[k]?=some x:=by rw[qDc (by omega),hx]
  have hq2:(l.take (k+1)).length=k+1:=by simp;omega
  have hq3:(l.take (k+1)).take k=l.take k:=by rw[qEq];congr 1;omega
  have hw:=wr (n:=(k:Int)) (by omega) (by omega);by_cases h0:x=0
  . subst h0;rw[hsn,qbP]at ht;generalize l.take (k+1)=q at *;simp[-getElem?_pos,e0,hq1,hq2,hw,zk,zR,yT,zT,show(k:Int)<=k+1 by omega];refine hR k _ _ (by omega) ⟨by omega,?_,ht⟩;rw[<- hq3];simp
  rw[hsn,qbQ _ h0,<- hsn]at ht;rw[<- ht];generalize l.take (k+1)=q at *;simp[-getElem?_pos,e0,hq1,hq2,hw,h0]
def qoG(n:Nat):(n:Int).tmod 10000=((n%10000:Nat):Int)/\(n:Int).tdiv 10000=((n/10000:Nat):Int):=by
 rw[qCf (by omega),qBT (by omega)];exact⟨rfl,rfl⟩
def qvl(H:List Blk)(s:List Int)(hs:s.length<2^30)(n:Int):qq (Dof prog) ⟨H,jY [] s⟩ 28 (ww 1 qh 0 s) (.sl 1 [[.int .i64 n]] .tight)=some (ww 1 qh 0 (s++[n]),⟨H,jY [] (s++[n])⟩) :=
 ya (D:=Dof prog) (sz:=1) (T:=[]) (H:=H) (m:=[n]) (en:=qh) D28 rfl D3 rfl (by decide) rfl (by decide) (by simp only[qBo];omega) 1 (.inl rfl)
def vg(n:Nat)(hn:n<9223372036854775808):Pure prog GG 55 [.int .i64 n] (.sl 1 ((dgs n).map qh) .none):=by
 refine qFm qg func55 rfl (by kernel_rfl) ?_;have hl5:(dgs n).length<=5:=ko (qEK hn (by decide));simp;refine qFu (fun m ev U=>∃d:List Int,m<=n/\ev 0=.int .i64 m/\ev 3=ww 1 qh 0 d/\d++dgs m=dgs n/\∃u,U=⟨u,jY [] d⟩) n ?_ ?_
 . exact⟨[],qA5 _,by simp,by simp,by simp,[],by simp⟩
 rintro m ev U R hR ⟨d,hm,e0,e3,hd,u,rfl⟩;have hdl:d.length<=5:=by
  have:=congrArg List.length hd;rw[qAY]at this;omega
 by_cases h0:m=0
 . subst h0;rw[jW,qBC]at hd;subst hd;simp[-fin,-yb,-yP,e0,e3]
 obtain⟨s1,s2⟩:=qoG m;have hap:=qvl u d (by omega) ((m%10000:Nat):Int);have hng:¬(((m%10000:Nat):Int))<0:=by omega
 have hw2:=wr (n:=((m/10000:Nat):Int)) (by omega) (by omega);rw[Zp h0]at hd;have hlt:m/10000<m:=by omega
 have hle:m/10000<=n:=by omega
 generalize hA:m%10000=A at *;generalize hB:m/10000=B at *;simp[e0,e3,h0,s1,s2,hng,hap,hw2,qi,qp];exact hR B _ _ hlt ⟨d++[(A:Int)],hle,by simp,by simp,by simpa using hd,u,rfl⟩
def qjc{a:List Int}(ha:dOk a)(i:Nat):valQ (a.drop i)=((a[i]?).getD 0).toNat+10000*valQ (a.drop (i+1))/\0<=(a[i]?).getD 0/\(a[i]?).getD 0<10000:=by
 by_cases h:i<a.length
 . obtain⟨x,hx⟩:∃x,a[i]?=some x:=⟨_,qAW h⟩;have hd:a.drop i=x::a.drop (i+1):=by
    rw[qA9 h];congr 1;exact Option.some.inj ((qAW h).symm.trans hx)
   have:=ha x (qAV hx);rw[hd,hx];exact⟨rfl,this⟩
 rw[qBs (by omega),qBq (by omega),qBq (by omega)];simp[valQ]
def Y6(s:List Int)(d:Int):valQ (s++[d])=valQ s+10000^s.length*d.toNat:=by rw[qaj];simp[valQ]
def qrJ(d:List Int):qO (qj1 1 qh d)=true:=VG fun x=>by simp[qh]
def qrK(d:List Int):zm [qj1 1 qh d] [.sl 1 (d.map qh) .none]:=by
 cases d with
 |nil=>simp[qj1,zm,Leq]
 |cons a r=>exact qFx _
def qgH{P:Program}{G:Nat->AV}{o:Opts}{ops:Array Oper}{dd:Bool}{g:FuncId}{d:List Int}{t:Nat}{r:AV}{U:St}{dst:Option Nat}{ct:Ct}{env:Env}{ks:List Fr}{Q:Exit->Env->St->Prop}(h:Pure P G g [.sl 1 (d.map qh) .none] r)
 (hq:kT P (zl G) o ops ct (upd env dst r) U ks Q):qb P (zl G) o ops dd g [ww 1 qh t d] U dst ct env ks Q:=by
 refine qFq (G:=zl G) h ?_ ?_ hq
 . show qw [plain (ww 1 qh t d)]=true;rw[QJ];simp only[qw,qrJ,qC2]
 show zm [plain (ww 1 qh t d)] _;rw[QJ];exact qrK d
def qvM:∀{n:Nat},n≠0->10000^((dgs n).length-1)<=n:=by
 intro n
 induction n using Nat.strongRecOn with
 | _ n ih=>
  intro h;rw[Zp h,qBc,qEy];by_cases h2:n/10000=0
  . rw[h2,jW];simp;omega
  have:=ih (n/10000) (by omega) h2;have hl:(dgs (n/10000)).length≠0:=fun e=>h2 (qa7.1 (qA6 e))
  obtain⟨k,hk⟩:∃k,(dgs (n/10000)).length=k+1:=⟨_,(Nat.succ_pred_eq_of_ne_zero hl).symm⟩;rw[hk]at this⊢;rw[qEy]at this;rw[qCi];omega
def JG{m n:Nat}(h:(dgs m).length<(dgs n).length):m<n:=by
 have hn:n≠0:=fun e=>by rw[e,jW]at h;simp at h
 have h1:=qvM hn;have h2:=Y7 (kw m);rw[js]at h2;have h3:10000^(dgs m).length<=10000^((dgs n).length-1):=qBn (by decide) (by omega);omega
def Vd{a:List Int}{k:Nat}{x:Int}(hx:a[k]?=some x):valQ a=valQ (a.take k)+10000^k*(x.toNat+10000*valQ (a.drop (k+1))):=by
 have hk:=(qAU.1 hx).1;have e:a=a.take k++(x::a.drop (k+1)):=by
  have hd:a.drop k=x::a.drop (k+1):=by
   rw[qA9 hk];congr 1;exact Option.some.inj ((qAW hk).symm.trans hx)
  rw[<- hd,qBF]
 conv=>lhs;rw[e]
 rw[qaj,show(a.take k).length=k by simp;omega];rfl
def qdj{a b:List Int}(ha:dOk a)(hb:dOk b){k:Nat}{x y:Int}(hx:a[k]?=some x)(hy:b[k]?=some y)(hd:a.drop (k+1)=b.drop (k+1))(h:x<y):valQ a<valQ b:=by
 rw[Vd hx,Vd hy,hd];have h1:dOk (a.take k):=fun d hd=>ha d (qBH hd)
 have h2:=Y7 h1;rw[show(a.take k).length=k by have:=(qAU.1 hx).1;simp;omega]at h2;have hx0:=(ha x (qAV hx)).1;have e:10000^k*(x.toNat+10000*valQ (b.drop (k+1)))+10000^k<=10000^k*(y.toNat+10000*valQ (b.drop (k+1))):=by
  rw[<- Nat.mul_succ];exact qEm _ (by omega)
 omega
def qfW(m n:Nat)(hm:(dgs m).length<=100000)(hn:(dgs n).length<=100000):Pure prog GG 156 [.sl 1 ((dgs m).map qh) .none,.sl 1 ((dgs n).map qh) .none] (.int .i64 (if m<n then -1 else if n<m then 1 else 0)):=by
 refine qFm qg func156 rfl (by kernel_rfl) ?_;by_cases hl:(dgs m).length=(dgs n).length
 case neg=>
  have hl':¬((dgs m).length:Int)=(dgs n).length:=by omega
  by_cases hlt:(dgs m).length<(dgs n).length
  . have:=JG hlt;simp[hl',hl,hlt,this]
  have h2:=JG (m:=n) (n:=m) (by omega);have h3:¬m<n:=by omega
  simp[hl',hl,hlt,h2,h3]
 have ha:=kw m;have hb:=kw n;have va:=js m;have vb:=js n;generalize dgs m=a at *;generalize dgs n=b at *;have hw0:=wr (n:=(b.length:Int)-1) (by omega) (by omega);simp[hl,hw0];refine qFu (fun k ev U=>k<=b.length/\ev 0=.sl 1 (a.map qh) .none/\ev 1=.sl 1 (b.map qh) .none/\ev 5=.int .i64 ((k:Int)-1)/\a.drop k=b.drop k) b.length ⟨qA5 _,by simp,by simp,by simp,by rw[qBL,<- hl,qBL]⟩ ?_;rintro k ev U R hR ⟨hk,e0,e1,e5,hd⟩
 cases k with
 | zero=>
  simp only[qBZ]at hd;subst hd;rw[va]at vb;subst vb;simp[e0,e1,e5]
 | succ k=>
  obtain⟨x,hx⟩:∃x,a[k]?=some x:=⟨_,qAW (by omega)⟩;obtain⟨y,hy⟩:∃y,b[k]?=some y:=⟨_,qAW (by omega)⟩;have e5':ev 5=.int .i64 (k:Int):=by rw[e5];congr 1;omega
  have hw:=wr (n:=(k:Int)-1) (by omega) (by omega);by_cases h1:x<y
  . have:=qdj ha hb hx hy hd h1;rw[va,vb]at this;simp[-getElem?_pos,e0,e1,e5',hx,hy,h1,this]
  by_cases h2:y<x
  . have h3:=qdj hb ha hy hx hd.symm h2;rw[va,vb]at h3;have h4:¬m<n:=(by omega);simp[-getElem?_pos,e0,e1,e5',hx,hy,h1,h2,h3,h4]
  have hxy:x=y:=by omega
  simp[-getElem?_pos,e0,e1,e5',hx,hy,h1,h2,hw];refine hR k _ _ (by omega) ⟨by omega,by simp[e0],by simp[e1],by simp,?_⟩;have ha':=(qAU.1 hx);have hb':=(qAU.1 hy);rw[qA9 ha'.1,qA9 hb'.1,ha'.2,hb'.2,hd,hxy]
def qhW{V p x y c A B d c2 va vb:Nat}(h:d+y+c=x+10000*c2)(hv:V+p*(x+10000*A)+vb=va+p*(c+(y+10000*B))):
 V+p*d+p*10000*A+vb=va+p*10000*(c2+B):=by
 have e:p*d+p*y+p*c=p*x+p*10000*c2:=by
  have:=congrArg (p * ·) h;simp only[qCY]at this;rw[qCb];omega
 simp only[qCY]at hv⊢;have e2:p*10000*A=p*(10000*A):=qCb ..;have e3:p*10000*B=p*(10000*B):=qCb ..;omega
def qnR(a b:List Int)(ha:dOk a)(hb:dOk b)(hla:a.length<=1000)(hlb:b.length<=1000)(hle:valQ b<=valQ a):Pure prog GG 157 [.sl 1 (a.map qh) .none,.sl 1 (b.map qh) .none] (.sl 1 ((dgs (valQ a-valQ b)).map qh) .none):=by
 refine qFm qg func157 rfl (by kernel_rfl) ?_;simp;refine qFu (fun m ev U=>∃(d:List Int) (c:Nat),m+d.length=a.length/\ev 0=.sl 1 (a.map qh) .none/\ev 1=.sl 1 (b.map qh) .none/\ev 5=ww 1 qh 0 d/\ev 6=.int .i64 c/\ev 7=.int .i64 d.length/\dOk d/\c<=1 /\
  valQ d+10000^d.length*valQ (a.drop d.length)+valQ b=valQ a+10000^d.length*(c+valQ (b.drop d.length))/\∃u,U=⟨u,jY [] d⟩) a.length ?_ ?_
 . exact⟨[],0,by simp,by simp,by simp,by simp,by simp,by simp,(fun d hd=>nomatch hd),by omega,by simp[valQ],[],by simp⟩
 rintro m ev U R hR ⟨d,c,hm,e0,e1,e5,e6,e7,hd,hc,hv,u,rfl⟩;by_cases hgo:d.length<a.length
 . obtain⟨v1,v2,v3⟩:=qjc ha d.length;obtain⟨w1,w2,w3⟩:=qjc hb d.length;have hAt2:=qs9 b d.length;obtain⟨x,hx⟩:∃x,a[d.length]?=some x:=⟨_,qAW hgo⟩;rw[hx,qDI]at v1 v2 v3;generalize hy:(b[d.length]?).getD 0=y at *;have hap:=qvl u d (by omega);have hwi:=wr (n:=(d.length:Int)+1) (by omega) (by omega);have hw1:=wr (n:=x-y) (by omega) (by omega);have hw2:=wr (n:=x-y-c) (by omega) (by omega);have hgo':(d.length:Int)<a.length:=(by omega);have next:∀ev' u' (z:Int) (c2:Nat),z+y+c=x+10000*c2->0<=z->z<10000->c2<=1->ev' 0=.sl 1 (a.map qh) .none->ev' 1=.sl 1 (b.map qh) .none->ev' 5=ww 1 qh 0 (d++[z])->ev' 6=.int .i64 c2->ev' 7=.int .i64 ((d.length+1:Nat):Int)->R ev' ⟨u',jY [] (d++[z])⟩:=by
    intro ev' u' z c2 k1 k2 k3 k4 g0 g1 g5 g6 g7;refine hR (m-1) _ _ (by omega) ⟨d++[z],c2,by simp;omega,g0,g1,g5,g6,by simpa using g7,?_,k4,?_,u',rfl⟩
    . exact qsX.2 ⟨hd,fun q hq=>by simp at hq;omega⟩
    rw[v1,w1]at hv;rw[Y6,qAY,qBo,qCi];exact qhW (by omega) hv
   by_cases hn:x-y-c<0
   . have hw3:=wr (n:=x-y-c+10000) (by omega) (by omega);simp[-getElem?_pos,-fin,-yb,-yP,e0,e1,e5,e6,e7,hgo',hx];refine qFp hAt2 (by simp) ?_;simp[-getElem?_pos,-fin,-yb,-yP,e0,e1,e5,e6,e7,hgo',hx,hw1,hw2,hn,hw3,qi,qp,hap,hwi];exact next _ _ _ 1 (by omega) (by omega) (by omega) (by omega) (by simp[e0]) (by simp[e1]) (by simp) (by simp) (by simp)
   simp[-getElem?_pos,-fin,-yb,-yP,e0,e1,e5,e6,e7,hgo',hx];refine qFp hAt2 (by simp) ?_;simp[-getElem?_pos,-fin,-yb,-yP,e0,e1,e5,e6,e7,hgo',hx,hw1,hw2,hn,qi,qp,hap,hwi];exact next _ _ _ 0 (by omega) (by omega) (by omega) (by omega) (by simp[e0]) (by simp[e1]) (by simp) (by simp) (by simp)
 have hgo':¬(d.length:Int)<a.length:=by omega
 have hdl:d.length=a.length:=by omega
 have hlt:=Y7 hd;have hvd:valQ d=valQ a-valQ b:=by
  rw[qBq (l:=a) (by omega)]at hv;simp only[valQ,qEM,qCy]at hv;by_cases hX:c+valQ (b.drop d.length)=0
  . rw[hX,qEM]at hv;omega
  have:=qD3 (10000^d.length) (qDj hX);omega
 have ht:=Y8 d (by omega);rw[QF hd,hvd]at ht;generalize dgs (valQ a-valQ b)=Z at *;simp[-fin,-yb,-yP,e0,e1,e5,e6,e7,hgo'];refine qgH ht ?_;simp
def qai{O:List Int}{j:Nat}{x v:Int}(hj:O[j]?=some x):valQ (O.set j v)+10000^j*x.toNat=valQ O+10000^j*v.toNat:=by
 induction O generalizing j with
 |nil=>simp at hj
 | cons d r ih=>
  cases j with
  | zero=>
   simp at hj;subst hj;simp only[qDU,valQ,Nat.pow_zero,qDE];omega
  | succ j=>
   have:=ih (by simpa using hj);simp only[qDB,valQ,qCi];have e1:10000^j*10000*x.toNat=10000*(10000^j*x.toNat):=(by rw[qCZ (10000^j),qCb]);have e2:10000^j*10000*v.toNat=10000*(10000^j*v.toNat):=(by rw[qCZ (10000^j),qCb]);rw[e1,e2];omega
structure TmO(O:List Int)(N J top:Nat):Prop where
 len:O.length=N
 dig:∀j x,O[j]?=some x->0<=x/\x<(if j=J then 19999 else 10000)
 zero:∀j x,O[j]?=some x->J<j->top<=j->x=0
def qq1{O N J top}(h:TmO O N J top)(hJ:J<top)(hN:top<N){x y z:Int}(hx:O[J]?=some x)(hy:O[J+1]?=some y)(h0:0<=z)(h1:z<=99980001):
 TmO (((O.set J (x+z)).set (J+1) (y+(x+z)/10000)).set J ((x+z)%10000)) N (J+1) top/\(J+1=top->y+(x+z)/10000<10000) /\
 valQ (((O.set J (x+z)).set (J+1) (y+(x+z)/10000)).set J ((x+z)%10000))=valQ O+10000^J*z.toNat:=by
 have dx:=h.dig J x hx;have dy:=h.dig (J+1) y hy;rw[if_pos rfl]at dx;rw[if_neg (by omega)]at dy;have hl:=h.len;refine⟨⟨by simp[hl],?_,?_⟩,?_,?_⟩
 . intro j v hv;rw[qCU,qCU,qCU]at hv;simp only[qCj]at hv;by_cases e1:J=j
   . subst e1;rw[if_pos rfl,if_pos (by omega)]at hv;have:=Option.some.inj hv;rw[if_neg (by omega)];omega
   rw[if_neg e1]at hv;by_cases e2:J+1=j
   . rw[if_pos e2,if_pos (by omega)]at hv;have:=Option.some.inj hv;rw[if_pos e2.symm];omega
   rw[if_neg e2,if_neg e1]at hv;have:=h.dig j v hv;rw[if_neg (Ne.symm e1)]at this;rw[if_neg (Ne.symm e2)];exact this
 . intro j v hv hj ht;rw[qAX (by omega),qAX (by omega),qAX (by omega)]at hv;exact h.zero j v hv (by omega) ht
 . intro e;have:=h.zero (J+1) y hy (by omega) (by omega);omega
 have v1:=qai (v:=x+z) hx;have v2:=qai (O:=O.set J (x+z)) (j:=J+1) (x:=y) (v:=y+(x+z)/10000) (by rw[qAX (by omega)];exact hy);have v3:=qai (O:=(O.set J (x+z)).set (J+1) (y+(x+z)/10000)) (j:=J) (x:=x+z) (v:=(x+z)%10000) (by rw[qAX (by omega),qA0 (by omega)]);rw[qCi]at v2;obtain⟨X,rfl⟩:=qBe dx.1;obtain⟨Y,rfl⟩:=qBe dy.1;obtain⟨Z,rfl⟩:=qBe h0;have e1:((X:Int)+Z).toNat=X+Z:=by omega
 have e2:((Y:Int)+((X:Int)+Z)/10000).toNat=Y+(X+Z)/10000:=by omega
 have e3:(((X:Int)+Z)%10000).toNat=(X+Z)%10000:=by omega
 rw[e1]at v1 v3;rw[e2]at v2;rw[e3]at v3;simp only[qBu]at v1 v2⊢;generalize valQ (((O.set J ((X:Int)+Z)).set (J+1) ((Y:Int)+((X:Int)+Z)/10000)).set J (((X:Int)+Z)%10000))=V3 at *;generalize valQ ((O.set J ((X:Int)+Z)).set (J+1) ((Y:Int)+((X:Int)+Z)/10000))=V2 at *;generalize valQ (O.set J ((X:Int)+Z))=V1 at *;have hq:=qDR (X+Z) 10000;generalize (X+Z)/10000=q at *;generalize (X+Z)%10000=r at *;generalize 10000^J=P at *;rw[<- hq]at v1 v3;have a1:P*10000*Y=P*(10000*Y):=qCb ..;have a2:P*10000*(Y+q)=P*(10000*Y)+P*(10000*q):=by rw[qCb,qCY,qCY]
 have a3:P*(10000*q+r)=P*(10000*q)+P*r:=qCY ..;have a4:P*(X+Z)=P*X+P*Z:=qCY ..;have a5:P*(X+Z)=P*(10000*q+r):=by rw[hq]
 omega
def ld1{O:List Int}{j:Nat}{v:Int}(h:O[j]?=some v):List.take 1 (List.drop j (zb O))=[.int .i64 v]:=by
 have hj:=(qAU.1 h);rw[qA9 (by rw[qR];exact hj.1)];simp[zb,hj.2]
def quZ{x y:Int}(h0:0<=x)(h1:x<10000)(g0:0<=y)(g1:y<10000):0<=x*y/\x*y<=99980001:=by
 refine⟨qE9 h0 g0,?_⟩;have:=Int.mul_le_mul (show x<=9999 by omega) (show y<=9999 by omega) g0 (by omega);omega
def qyN(H:List Blk)(T:List (Option Nat))(s:List Int)(hs:s.length<2^30)(n:Int):qq (Dof prog) ⟨H,jY T s⟩ 28 (ww 1 qh T.length s) (.sl 1 [[.int .i64 n]] .tight)=some (ww 1 qh T.length (s++[n]),⟨H,jY T (s++[n])⟩) :=
 ya (D:=Dof prog) (sz:=1) (T:=T) (H:=H) (m:=[n]) (en:=qh) D28 rfl D3 rfl (by decide) rfl (by decide) (by simp only[qBo];omega) 1 (.inl rfl)
def qnh(O:List Int)(hO:dOk O)(hne:O≠[])(hl:O.length<=1000)(B:Nat)(H:List Blk)(T:List (Option Nat))(hB:H[B]?=some (.cells (zb O))):
 qj prog GG 106 [.ms B 0 O.length 1,.sl 0 [] .nil] ⟨H,T⟩ (fun r U'=>r=.sl 1 ((dgs (valQ O)).map qh) .none/\U'.H=H):=by
 refine qFo qg func106 rfl (by kernel_rfl) ?_;have how:jr B 1 qh H (.ms B 0 O.length 1) O:=.inr ⟨hne,rfl,by rw[hB,jM]⟩;have g1:=how.frz (fun x=>by simp) (fun x=>by simp) (fun x=>by simp) 7;simp[-getElem?_pos];refine qFu (fun m ev U=>∃i:Nat,m+i=O.length/\ev 0=.ms B 0 O.length 1/\ev 1=.sl 0 [] .nil/\ev 5=ww 1 qh T.length (O.take i)/\ev 6=.int .i64 0/\ev 7=.int .i64 i/\U=⟨H,jY T (O.take i)⟩) O.length ⟨0,by omega,by simp,by simp,by simp,by simp,by simp,by simp⟩ ?_;rintro m ev U R hR ⟨i,hm,e0,e1,e5,e6,e7,rfl⟩;by_cases hi:i<O.length
 . obtain⟨x,hx⟩:∃x,O[i]?=some x:=⟨_,qAW hi⟩;have hxd:=hO x (qAV hx);have hAt1:=qs9 O i;have hAt2:=qs9 [] i;rw[hx,qDI]at hAt1;simp only[List.getElem?_nil,Option.getD_none,qBy]at hAt2;have hi':(i:Int)<O.length:=(by omega);have hw1:=wr (n:=x) (by omega) (by omega);have hwi:=wr (n:=(i:Int)+1) (by omega) (by omega);have hq:x.tdiv 10000=0:=(by rw[qBT (by omega)];omega);have hr:x.tmod 10000=x:=(by rw[qCf (by omega)];omega);have hap:=qyN H T (O.take i) (by simp;omega) x;have hsn:O.take (i+1)=O.take i++[x]:=(by rw[qBi,hx];rfl);rw[<- hsn]at hap;have w0:IntKind.i64.wrap 0=0:=(by decide);simp[-getElem?_pos,-fin,-yb,-yP,e0,e1,e5,e6,e7,hi'];refine qFr hAt1 rfl ?_ ?_
   . simp only[qA7,qBy,zm];exact⟨g1,by simp[frz,Leq],trivial⟩
   simp[-getElem?_pos,-fin,-yb,-yP,e0,e1,e5,e6,e7];refine qb.less hAt2 (by simp) (by simp[zm,Leq]) ?_;simp[-getElem?_pos,-fin,-yb,-yP,e0,e1,e5,e6,e7,hw1,hq,hr,qi,qp,hap,hwi,w0];exact hR (m-1) _ _ (by omega) ⟨i+1,by omega,by simp[e0],by simp[e1],by simp,by simp,by simp,rfl⟩
 have hi':¬(i:Int)<O.length:=by omega
 rw[qAZ (by omega)]at e5;rw[qAZ (by omega)];have ht:=Y8 O (by omega);rw[QF hO]at ht;have hneg:¬(i:Int)<0:=by omega
 simp[-getElem?_pos,-fin,-yb,-yP,e0,e1,e5,e6,e7,hi',hneg];refine qgH ht ?_;simp
def Yv(a b:List Int)(ha:dOk a)(hb:dOk b)(hla:a.length<=100)(hlb:b.length<=100):Pure prog GG 57 [.sl 1 (a.map qh) .none,.sl 1 (b.map qh) .none] (.sl 1 ((dgs (valQ a*valQ b)).map qh) .none):=by
 refine qFm qg func57 rfl (by kernel_rfl) ?_;obtain⟨N,hN⟩:∃N,N=a.length+b.length+1:=⟨_,rfl⟩;have hw1:=wr (n:=(a.length:Int)+b.length) (by omega) (by omega);have hw2:IntKind.i64.wrap ((a.length:Int)+b.length+1)=(N:Int):=by rw[wr (by omega) (by omega)];omega
 have hN0:¬(N:Int)=0:=by omega
 have hN1:¬N=0:=by omega
 simp[-getElem?_pos,hw1,hw2,qG,show(N:Int)<=549755813888 by omega,hN0,hN1];refine qFu (fun m ev U=>∃(i:Nat) (O:List Int),m+i=a.length/\ev 0=.sl 1 (a.map qh) .none/\ev 1=.sl 1 (b.map qh) .none/\ev 5=.ms 0 0 N 1/\ev 6=.int .i64 i/\TmO O N N 0/\(∀j x,O[j]?=some x->i+b.length<=j->x=0) /\
  valQ O=valQ (a.take i)*valQ b/\∃T,U=⟨[.cells (zb O)],T⟩) a.length ?_ ?_
 . refine⟨0,List.replicate N 0,by omega,by simp,by simp,by simp,by simp,⟨by simp,?_,?_⟩,?_,?_,[],by simp[zb]⟩
   . intro j x hx;have:=qDd (qAV hx);subst this;split<;>omega
   . intro j x hx _ _;exact qDd (qAV hx)
   . intro j x hx _;exact qDd (qAV hx)
   . simp only[qD0,valQ,qCK];clear hw2 hN0 hN1 hN
     induction N with
     |zero=>rfl
     |succ n ih=>rw[qCV,valQ,ih];rfl
 rintro m ev U R hR ⟨i,O,hm,e0,e1,e5,e6,hO,hz_,hv,T,rfl⟩;by_cases hi:i<a.length
 case neg=>
  have hi':¬(i:Int)<a.length:=by omega
  have hia:i=a.length:=by omega
  subst hia;rw[qCr]at hv;have hOk:dOk O:=by
   intro d hd;obtain⟨j,hj⟩:=qBB hd;have h1:=hO.dig j d hj;have h2:=(qAU.1 hj).1;have h3:=hO.len
   rwa[if_neg (by omega)]at h1
  have hol:=hO.len;have hp:=qnh O hOk (by intro e;rw[e]at hol;simp at hol;omega) (by omega) 0 [.cells (zb O)] T rfl;rw[hol]at hp;have ht:=Y8 (dgs (valQ O)) (by have:=ko (Y7 hOk);omega);rw[QF (kw _),js]at ht;rw[hv]at hp ht;generalize dgs (valQ a*valQ b)=Z at *;simp[-getElem?_pos,e0,e1,e5,e6,hi'];refine qFs hp ?_;rintro v U' ⟨rfl,hH⟩;simp;refine qFp ht (by simp) ?_;simp
 have hi':(i:Int)<a.length:=by omega
 obtain⟨x,hx⟩:∃x,a[i]?=some x:=⟨_,qAW hi⟩;have hxd:=ha x (qAV hx);simp[-getElem?_pos,e0,e1,e5,e6,hi'];refine qFu (fun m2 ev U=>∃(k:Nat) (O:List Int),m2+k=b.length/\ev 0=.sl 1 (a.map qh) .none/\ev 1=.sl 1 (b.map qh) .none/\ev 5=.ms 0 0 N 1/\ev 6=.int .i64 i/\ev 7=.int .i64 k/\TmO O N (i+k) (i+b.length) /\
  (k=b.length->∀y,O[i+k]?=some y->y<10000)/\valQ O=valQ (a.take i)*valQ b+10000^i*(x.toNat*valQ (b.take k))/\∃T,U=⟨[.cells (zb O)],T⟩) b.length ?_ ?_
 . refine⟨0,O,by omega,by simp[e0],by simp[e1],by simp[e5],by simp[e6],by simp,⟨hO.len,?_,?_⟩,?_,?_,T,rfl⟩
   . intro j z hz;have h1:=hO.dig j z hz;have h2:=(qAU.1 hz).1;have h3:=hO.len;rw[if_neg (by omega)]at h1;split<;>omega
   . intro j z hz hj ht;exact hz_ j z hz ht
   . intro hb0 z hz;have h1:=hO.dig _ z hz;have h2:=(qAU.1 hz).1;have h3:=hO.len;rw[if_neg (by omega)]at h1;exact h1.2
   . simp[valQ,hv]
 rintro m2 ev2 U2 R2 hR2 ⟨k,O2,hm2,f0,f1,f5,f6,f7,hO2,hl2,hv2,T2,rfl⟩;by_cases hk:k<b.length
 case neg=>
  have hk':¬(k:Int)<b.length:=by omega
  have hwi:=wr (n:=(i:Int)+1) (by omega) (by omega);have hkb:k=b.length:=by omega
  subst hkb;rw[qCr]at hv2;have hol:=hO2.len;simp[-getElem?_pos,f0,f1,f5,f6,f7,hk',hwi];refine hR (m-1) _ _ (by omega) ⟨i+1,O2,by omega,by simp[f0],by simp[f1],by simp[f5],by simp,⟨hol,?_,?_⟩,?_,?_,T2,rfl⟩
  . intro j z hz;have hjl:=(qAU.1 hz).1;rw[if_neg (by omega)];by_cases hj:j=i+b.length
    . subst hj;exact⟨(hO2.dig _ z hz).1,hl2 rfl z hz⟩
    have:=hO2.dig j z hz
    rwa[if_neg hj]at this
  . intro j z hz hj _;have hjl:=(qAU.1 hz).1;omega
  . intro j z hz hj;exact hO2.zero j z hz (by omega) (by omega)
  rw[hv2,show a.take (i+1)=a.take i++[x] by rw[qBi,hx];rfl,Y6,qBW,show(a.take i).length=i by simp;omega,qCb]
 have hk':(k:Int)<b.length:=by omega
 obtain⟨y,hy⟩:∃y,b[k]?=some y:=⟨_,qAW hk⟩;have hyd:=hb y (qAV hy);have hJN:i+k+1<N:=by omega
 obtain⟨u,hu⟩:∃u,O2[i+k]?=some u:=⟨_,qAW (by have:=hO2.len;omega)⟩;obtain⟨v,hv'⟩:∃v,O2[i+k+1]?=some v:=⟨_,qAW (by have:=hO2.len;omega)⟩;obtain⟨z0,z1⟩:=quZ hxd.1 hxd.2 hyd.1 hyd.2;have hst:=qq1 hO2 (by omega) (by omega) hu hv' z0 z1;have hwk:=wr (n:=(k:Int)+1) (by omega) (by omega);have hwJ:IntKind.i64.wrap ((i:Int)+k)=((i+k:Nat):Int):=by rw[wr (by omega) (by omega)];omega
 have hwz:=wr (n:=x*y) (by omega) (by omega);have du:=hO2.dig _ _ hu;have dv:=hO2.dig _ _ hv';rw[if_pos rfl]at du;rw[if_neg (by omega)]at dv;have hwu:=wr (n:=u+x*y) (by omega) (by omega);generalize hJ:i+k=J at *;have hwJ1:=wr (n:=(J:Int)+1) (by omega) (by omega);obtain⟨Wv,hW⟩:∃Wv,u+x*y=Wv:=⟨_,rfl⟩;rw[hW]at hst hwu;obtain⟨q,hq⟩:∃q,Wv/10000=q:=⟨_,rfl⟩;obtain⟨r,hr⟩:∃r,Wv%10000=r:=⟨_,rfl⟩;rw[hq,hr]at hst;have hWb:0<=Wv/\Wv<=99999999:=by omega
 have hq':Wv.tdiv 10000=q:=by rw[qBT (by omega)];exact hq
 have hr':Wv.tmod 10000=r:=by rw[qCf (by omega)];exact hr
 have hwq:=wr (n:=q) (by omega) (by omega);have hwv:=wr (n:=v+q) (by omega) (by omega);have hol:=hO2.len;have i1:=ld1 (O:=O2.set J Wv) (j:=J) (v:=Wv) (by rw[qA0 (by omega)]);have i2:=ld1 (O:=O2.set J Wv) (j:=J+1) (v:=v) (by rw[qAX (by omega)];exact hv');have i3:=ld1 (O:=(O2.set J Wv).set (J+1) (v+q)) (j:=J) (v:=Wv) (by rw[qAX (by omega),qA0 (by omega)]);simp[-getElem?_pos,f0,f1,f5,f6,f7,hk',hwk,hwJ,hwJ1,hx,hy,ld1 hu,hwz,hW,hwu,hJN,show J<N by omega,qR,hol,show J+1<=N by omega,yL,show(0:Int)<=(J:Int)+1 by omega,show(J:Int)+1<N by omega,i1,i2,i3,hq',hr',hwq,hwv,show J+1+1<=N by omega];obtain⟨s1,s2,s3⟩:=hst;refine hR2 (m2-1) _ _ (by omega) ⟨k+1,_,by omega,by simp[f0],by simp[f1],by simp[f5],by simp[f6],by simp,by rw[show i+(k+1)=J+1 by omega];exact s1,?_,?_,T2,rfl⟩
 . intro hkb z hz;rw[show i+(k+1)=J+1 by omega,qAX (by omega),qA0 (by simp;omega)]at hz;have:=s2 (by omega);have:=Option.some.inj hz;omega
 rw[s3,hv2,show b.take (k+1)=b.take k++[y] by rw[qBi,hy];rfl,Y6,show(b.take k).length=k by simp;omega,<- hJ,qEX];obtain⟨X,rfl⟩:=qBe hxd.1;obtain⟨Y,rfl⟩:=qBe hyd.1;have:((X:Int)*(Y:Int)).toNat=X*Y:=by rw[<- Int.natCast_mul];exact qBu _
 rw[this];simp only[qBu,qCY];have e1:10000^i*10000^k*(X*Y)=10000^i*(X*(10000^k*Y)):=by rw[qCb,Nat.mul_left_comm X]
 omega
def qfn(l:List Int):l.take (yQ l).length=yQ l:=by
 induction l with
 |nil=>rfl
 | cons d r ih=>
  unfold yQ;split
  . rfl
  rw[qBc,qCt,ih]
def qmL(O:List Int)(hl:O.length<=1000)(B:Nat)(H:List Blk)(T:List (Option Nat))(hB:H[B]?=some (.cells (zb O))):
 qj prog GG 105 [.ms B 0 O.length 1] ⟨H,T⟩ (fun r U'=>r=.ms B 0 (yQ O).length 1/\U'=⟨H,T⟩):=by
 refine qFo qg func105 rfl (by kernel_rfl) ?_;simp[-getElem?_pos];refine qFu (fun k ev U=>k<=O.length/\ev 0=.ms B 0 k 1/\yQ (O.take k)=yQ O/\U=⟨H,T⟩) O.length ⟨qA5 _,by simp,by simp,rfl⟩ ?_;rintro k ev U R hR ⟨hk,e0,ht,rfl⟩
 cases k with
 | zero=>
  have hz:yQ O=[]:=by rw[<- ht];rfl
  simp[-getElem?_pos,e0,hz]
 | succ k=>
  have hkl:k<O.length:=by omega
  obtain⟨x,hx⟩:∃x,O[k]?=some x:=⟨_,qAW hkl⟩;have hsn:O.take (k+1)=O.take k++[x]:=by rw[qBi,hx];rfl
  have hw:=wr (n:=(k:Int)) (by omega) (by omega);rw[hsn]at ht;by_cases h0:x=0
  . subst h0;rw[qbP]at ht;simp[-getElem?_pos,e0,hw,hB,ld1 hx,qR,hkl,show k+1<=O.length by omega,zk,zR,show(k:Int)<=k+1 by omega,show(k:Int)<k+1 by omega];refine hR k _ _ (by omega) ⟨by omega,?_,ht,rfl⟩;simp
  rw[qbQ _ h0,<- hsn]at ht;have hl2:(yQ O).length=k+1:=by rw[<- ht];simp;omega
  rw[hl2];simp[-getElem?_pos,e0,hw,hB,ld1 hx,qR,hkl,show k+1<=O.length by omega,h0,show(k:Int)<k+1 by omega]
end Go.Proofs.YtimecmegnocamaaGreatDoor
namespace Go.Abs
def qsQ{y a m B:Nat}(hy:0<y):a/y*B+(a%y*B+m)/y=(a*B+m)/y/\(a%y*B+m)%y=(a*B+m)%y:=by
 have e:a*B+m=(a%y*B+m)+a/y*B*y:=by
  have h2:(y*(a/y)+a%y)*B=a*B:=by rw[Nat.div_add_mod]
  rw[Nat.add_mul,Nat.mul_comm y,Nat.mul_assoc,Nat.mul_comm y,<- Nat.mul_assoc]at h2;omega
 rw[e,Nat.add_mul_div_right _ _ hy,Nat.add_mul_mod_self_right];exact⟨Nat.add_comm ..,rfl⟩
end Go.Abs
namespace Go.Proofs.YtimecmegnocamaaGreatDoor
open Go Go.Abs Proofs.Tryz
def hdV(t:Nat)(x:Int)(l:List Int):AV:=if l=[] then .sl 1 [[.int .i64 x]] .tight else .sl 1 ((x::l).map qh) (.chain t l.length)
def hdT(T:List (Option Nat))(l:List Int):List (Option Nat):=if l=[] then T else T++[some l.length]
def qvj(H T)(x:Int)(l:List Int)(hl:l.length<=1000):qq (Dof prog) ⟨H,T⟩ 28 (.sl 1 [[.int .i64 x]] .tight) (.sl 1 (l.map qh) .none)=some (hdV T.length x l,⟨H,hdT T l⟩):=by
 by_cases h:l=[]
 . subst h;simp[qq,za,hdV,hdT]
 simp[qq,za,hdV,hdT,h,show l.length+1<=549755813888 by omega,show 1+l.length<=549755813888 by omega]
def qsm(H T)(x:Int):qq (Dof prog) ⟨H,T⟩ 28 (.sl 1 [[.int .i64 x]] .tight) (.sl 0 [] .nil)=some (hdV T.length x [],⟨H,hdT T []⟩):=by
 simp[qq,za,hdV,hdT]
def qs4{P:Program}{G:Nat->AV}{o:Opts}{ops:Array Oper}{dd:Bool}{g:FuncId}{x:Int}{d:List Int}{t:Nat}{r:AV}{U:St}{dst:Option Nat}{ct:Ct}{env:Env}{ks:List Fr}{Q:Exit->Env->St->Prop}(h:Pure P G g [.sl 1 ((x::d).map qh) .none] r)
 (hq:kT P (zl G) o ops ct (upd env dst r) U ks Q):qb P (zl G) o ops dd g [hdV t x d] U dst ct env ks Q:=by
 unfold hdV;split
 . rename_i hd;subst hd;refine qFq (G:=zl G) h ?_ ?_ hq
   . simp[plain,pl2,pl1,qw,qO,qX]
   simp[plain,pl2,pl1,zm,Leq]
 refine qFq (G:=zl G) h ?_ ?_ hq
 . simp[plain,pl2,pl1,qw,qO,qX]
 simp[plain,pl2,pl1,zm,Leq]
def qdk:∀(k:Nat) (O:List Int),k<=O.length->wL 1 k (zb O)=(O.take k).map qh
 |0,O,_=>by simp[wL]
 |k+1,[],h=>by simp at h
 | k+1,d::r,h=>by
  have:=qdk k r (by simpa using h);simp only[wL,zb,qA7,qCt,qDv,qD0,qBZ]at this⊢;rw[this];rfl
def qst{H:List Blk}{B:Nat}{O:List Int}{k n:Nat}(hB:H[B]?=some (.cells (zb O)))(hk:k<=O.length):Abs.frz H (n+1) (.ms B 0 k 1)=.sl 1 ((O.take k).map qh) .none:=by
 have hr:((O.take k).map qh).map (·.map (Abs.frz H n))=(O.take k).map qh:=vA (fun x=>by simp) _;have ha:((O.take k).map qh).all (·.all AV.atom)=true:=by
  rw[qDT,qA3];intro x _;simp
 unfold Abs.frz;simp only[qO,qBz,if_false,hB,qBZ];rw[qdk k O hk,hr,if_pos ⟨by rw[qR];omega,ha⟩]
def qom{H:List Blk}{B:Nat}{O R:List Int}{k:Nat}{w:AV}(hB:H[B]?=some (.cells (zb O)))(hk:k<=O.length)(hw:w=.sl 1 (R.map qh) .none\/(R=[]/\w=.sl 0 [] .nil)):
 qO (Abs.frz H 8 (.tup [.ms B 0 k 1,w]))=true/\Leq (Abs.frz H 8 (.tup [.ms B 0 k 1,w])) (.tup [.sl 1 ((O.take k).map qh) .none,.sl 1 (R.map qh) .none]):=by
 have e:Abs.frz H 8 (.tup [.ms B 0 k 1,w])=.tup [Abs.frz H 7 (.ms B 0 k 1),Abs.frz H 7 w]:=by
  rw[Abs.frz,if_neg (by simp[qO,qw])];rfl
 rw[e,qst hB hk];have hr:qX ((O.take k).map qh)=true:=zn (fun x=>by simp) _;generalize O.take k=q at *;rcases hw with rfl|⟨rfl,rfl⟩
 . rw[qF (by simp)];exact⟨by simp[qw,qO],by simp[Leq,zm]⟩
 rw[qF (by simp)];exact⟨by simp[qw,qO],by simp[Leq,zm]⟩
def qkL(lo hi:Nat):(((lo+hi+1:Nat):Int)).tdiv 2=((lo+hi+1)/2:Nat):=by
 rw[qBT (by omega)];rfl
def Wu(m n:Nat)(hn:0<n)(hml:(dgs m).length<=50)(hnl:(dgs n).length<=50):
 Pure prog GG 103 [.sl 1 ((dgs m).map qh) .none,.sl 1 ((dgs n).map qh) .none] (.tup [.sl 1 ((dgs (m/n)).map qh) .none,.sl 1 ((dgs (m%n)).map qh) .none]):=by
 refine qFl o0 true qg func103 rfl (by kernel_rfl) ?_;have ha:=kw m;have hb:=kw n;have va:=js m;have vb:=js n;generalize dgs m=a at *;have hnlt:n<10000^50:=by
  have:=Y7 hb;rw[vb]at this;exact qBd this (qBn (by decide) hnl)
 by_cases h0:a=[]
 . subst h0;simp only[valQ]at va;subst va;have ht:=Y8 [] (by simp);have w1:IntKind.i64.wrap (-1) = -1:=(by decide);simp[qG,w1];refine qFu (fun m ev U=>ev 6=.sl 1 [] (.chain 0 0)/\ev 7=.sl 0 [] .nil/\ev 8=.int .i64 (-1)) 0 ⟨by simp,by simp,by simp⟩ ?_;rintro m ev U R hR ⟨e6,e7,e8⟩;simp[e6,e7,e8];refine qFq (G:=zl GG) ht (by simp[plain,pl2,pl1]) (by simp[plain,pl2,pl1,zm,Leq]) ?_;simp[e7];rw[qF (by simp[qw,qO,yQ])];simp[jW,yQ,Leq,zm,qO,qw]
 have hN:=qBf.2 h0;obtain⟨N,hNN⟩:∃N,a.length=N:=⟨_,rfl⟩;have hN0:¬(N:Int)=0:=by omega
 have hN1:¬N=0:=by omega
 have hwN:=wr (n:=(N:Int)-1) (by omega) (by omega);simp[-getElem?_pos,qG,hNN,hN0,hN1,show(N:Int)<=549755813888 by omega,hwN];refine qFu (fun k ev U=>∃(O:List Int) (T:List (Option Nat)),k<=N/\ev 0=.sl 1 (a.map qh) .none/\ev 1=.sl 1 ((dgs n).map qh) .none/\ev 6=.ms 0 0 N 1/\ev 8=.int .i64 ((k:Int)-1) /\
  (ev 7=.sl 1 ((dgs (valQ (a.drop k)%n)).map qh) .none\/(valQ (a.drop k)%n=0/\ev 7=.sl 0 [] .nil))/\O.length=N/\dOk O/\(∀j,j<k->O[j]?=some 0)/\valQ (O.drop k)=valQ (a.drop k)/n/\U=⟨[.cells (zb O)],T⟩) N ?_ ?_
 . refine⟨List.replicate N 0,[],qA5 _,by simp,by simp,by simp,by simp,.inr ⟨?_,by simp⟩,by simp,?_,?_,?_,by simp[zb]⟩
   . rw[qBq (by omega)];simp[valQ]
   . intro d hd;rw[qDd hd];omega
   . intro j hj;rw[qDy,if_pos hj]
   . rw[qBq (by simp),qBq (by omega)];simp[valQ]
 rintro k ev U R hR ⟨O,T,hk,e0,e1,e6,e8,e7,hOl,hO,hOz,hOv,rfl⟩
 cases k with
 | zero=>
  simp only[qBZ]at e7 hOv;rw[va]at e7 hOv;have ht:=qmL O (by omega) 0 [.cells (zb O)] T rfl;rw[hOl]at ht;simp[-getElem?_pos,e0,e1,e6,e8];refine qFs ht ?_;rintro v U' ⟨rfl,rfl⟩;simp[-getElem?_pos,e0,e1,e6,e8];have hOt:O.take (yQ O).length=dgs (m/n):=by rw[qfn,QF hO,hOv]
  have:=qom (H:=[.cells (zb O)]) (B:=0) (O:=O) (R:=dgs (m%n)) (k:=(yQ O).length) (w:=ev 7) rfl (by have:=congrArg List.length (qfn O);rw[qBG]at this;omega) (e7.imp id fun h=>⟨by rw[h.1,jW],h.2⟩)
  rwa[hOt]at this
 | succ j=>
  have hj:j<N:=by omega
  obtain⟨x,hx⟩:∃x,a[j]?=some x:=⟨_,qAW (by omega)⟩;have hxd:=ha x (qAV hx);have hd:a.drop j=x::a.drop (j+1):=by
   have hja:=qAU.1 hx;rw[qA9 hja.1,hja.2]
  obtain⟨V,hV⟩:∃V,V=valQ (a.drop (j+1)):=⟨_,rfl⟩;rw[<- hV]at e7 hOv;have hRn:=qDo V hn;obtain⟨Rr,hRr⟩:∃Rr,Rr=V%n:=⟨_,rfl⟩;rw[<- hRr]at e7 hRn;obtain⟨S,hS⟩:∃S,S=Rr*10000+x.toNat:=⟨_,rfl⟩;have hSn:S<10000*n:=by omega
  obtain⟨D,hD⟩:∃D,D=S/n:=⟨_,rfl⟩;have hD9:D<=9999:=by
   have:D<10000:=by rw[hD,qEc hn];exact hSn
   omega
  have hjoin:=qsQ (a:=V) (m:=x.toNat) (B:=10000) hn;rw[<- hRr,<- hS,<- hD]at hjoin;have e8':ev 8=.int .i64 (j:Int):=by rw[e8];congr 1;omega
  have hRl:(dgs Rr).length<=50:=ko (qEK hRn hnlt);have hSl:(dgs S).length<=51:=ko (by rw[qCi];omega);have htr:=Y8 (x::dgs Rr) (by simp;omega);have hxl:dOk (x::dgs Rr):=by
   intro d hd;rcases qBt.1 hd with rfl|hd
   . exact hxd
   exact kw _ d hd
  rw[QF hxl,valQ,js,show x.toNat+10000*Rr=S by omega]at htr;have hap:=qvj [.cells (zb O)] T x (dgs Rr) (by omega);have hap0:=qsm [.cells (zb O)] T x;have hapw:qq (Dof prog) ⟨[.cells (zb O)],T⟩ 28 (.sl 1 [[.int .i64 x]] .tight) (ev 7)=some (hdV T.length x (dgs Rr),⟨[.cells (zb O)],hdT T (dgs Rr)⟩):=by
   rcases e7 with e7|⟨hR0,e7⟩
   . rw[e7];exact hap
   rw[e7,hR0,jW];exact hap0
  generalize hdT T (dgs Rr)=T1 at *;simp[-getElem?_pos,-fin,-yb,-yP,e0,e1,e6,e8',hx,qi,qp,hapw];refine qs4 htr ?_;simp[-getElem?_pos,-fin,-yb,-yP,e0,e1,e6,e8'];refine qFu (fun q ev U=>∃lo hi:Nat,q+lo=hi/\lo<=D/\D<=hi/\hi<=9999/\ev 0=.sl 1 (a.map qh) .none/\ev 1=.sl 1 ((dgs n).map qh) .none/\ev 6=.ms 0 0 N 1/\ev 7=.sl 1 ((dgs S).map qh) .none/\ev 8=.int .i64 j/\ev 10=.int .i64 lo/\ev 11=.int .i64 hi/\U=⟨[.cells (zb O)],T1⟩) 9999 ⟨0,9999,rfl,by omega,hD9,by omega,by simp[e0],by simp[e1],by simp[e6],by simp,by simp[e8'],by simp,by simp,rfl⟩ ?_;rintro q ev2 U2 R2 hR2 ⟨lo,hi,hq,hlo,hhi,h99,f0,f1,f6,f7,f8,f10,f11,rfl⟩;by_cases hlh:lo<hi
  . have hlh':(lo:Int)<hi:=(by omega);obtain⟨md,hmd⟩:∃md,md=(lo+hi+1)/2:=⟨_,rfl⟩;have w1:=wr (n:=(lo:Int)+hi) (by omega) (by omega);have w2:IntKind.i64.wrap ((lo:Int)+hi+1)=((lo+hi+1:Nat):Int):=(by rw[wr (by omega) (by omega)];omega);have w3:=qkL lo hi;rw[<- hmd]at w3;have w4:=wr (n:=(md:Int)) (by omega) (by omega);have w5:=wr (n:=(md:Int)-1) (by omega) (by omega);have c1:=vg md (by omega);have c2:=Yv (dgs n) (dgs md) hb (kw md) (by omega) (by have:=ko (n:=md) (k:=2) (by omega);omega);rw[vb,js]at c2;have hnm:(dgs (n*md)).length<=51:=ko (by rw[qCi];exact qBd (Nat.mul_lt_mul_of_lt_of_le hnlt (show md<=10000 by omega) (by omega)) (qA5 _));have c3:=qfW (n*md) S (by omega) (by omega);have hcmp:n*md<=S↔md<=D:=(by rw[hD,qFa hn,qCZ]);have hm1:lo<md/\md<=hi:=(by omega);generalize lo+hi+1=z at *;simp[-getElem?_pos,-fin,-yb,-yP,f0,f1,f6,f7,f8,f10,f11,hlh',w1,w2,w3,w4];refine qFp c1 (by simp) ?_;simp[-getElem?_pos,-fin,-yb,-yP,f0,f1,f6,f7,f8,f10,f11];refine qFp c2 (by simp) ?_;simp[-getElem?_pos,-fin,-yb,-yP,f0,f1,f6,f7,f8,f10,f11];refine qFp c3 (by simp) ?_;by_cases hle:n*md<=S
    . have hv:(if n*md<S then(-1:Int) else if S<n*md then 1 else 0)<=0:=by
       rw[if_neg (c:=S<n*md) (by omega)];split<;>omega
      generalize (if n*md<S then(-1:Int) else if S<n*md then 1 else 0)=cv at *;simp[-getElem?_pos,-fin,-yb,-yP,f0,f1,f6,f7,f8,f10,f11,hv];exact hR2 (hi-md) _ _ (by omega) ⟨md,hi,by omega,hcmp.1 hle,hhi,h99,by simp[f0],by simp[f1],by simp[f6],by simp[f7],by simp[f8],by simp,by simp[f11],rfl⟩
    have hv:¬(if n*md<S then(-1:Int) else if S<n*md then 1 else 0)<=0:=(by rw[if_neg (by omega),if_pos (by omega)];omega);have hDm:¬md<=D:=fun h=>hle (hcmp.2 h)
    generalize (if n*md<S then(-1:Int) else if S<n*md then 1 else 0)=cv at *;simp[-getElem?_pos,-fin,-yb,-yP,f0,f1,f6,f7,f8,f10,f11,hv,w5];refine hR2 (md-1-lo) _ _ (by omega) ⟨lo,md-1,by omega,hlo,by omega,by omega,by simp[f0],by simp[f1],by simp[f6],by simp[f7],by simp[f8],by simp[f10],?_,rfl⟩;simp;omega
  have hlh':¬(lo:Int)<hi:=by omega
  have hlD:lo=D:=by omega
  subst hlD;have c1:=vg lo (by omega);have c2:=Yv (dgs n) (dgs lo) hb (kw lo) (by omega) (by have:=ko (n:=lo) (k:=2) (by omega);omega);rw[vb,js]at c2;have hnm:n*lo<=S:=by rw[hD,qCZ];exact Nat.div_mul_le_self S n
  have hnml:(dgs (n*lo)).length<=51:=ko (by rw[qCi];omega);have c3:=qnR (dgs S) (dgs (n*lo)) (kw _) (kw _) (by omega) (by omega) (by rw[js,js];exact hnm);have hSm:S-n*lo=S%n:=by
   have:=qDR S n;rw[<- hD]at this;omega
  rw[js,js,hSm]at c3;have hOs:(zb O).length=N:=by rw[qR,hOl]
  have hwj:=wr (n:=(j:Int)-1) (by omega) (by omega);simp[-getElem?_pos,-fin,-yb,-yP,f0,f1,f6,f7,f8,f10,f11,hlh',hj,hOs,show j+1<=N by omega,yL];refine qFp c1 (by simp) ?_;simp[-getElem?_pos,-fin,-yb,-yP,f0,f1,f6,f7,f8,f10,f11];refine qFp c2 (by simp) ?_;simp[-getElem?_pos,-fin,-yb,-yP,f0,f1,f6,f7,f8,f10,f11];refine qFp c3 (by simp) ?_;simp[-getElem?_pos,-fin,-yb,-yP,f0,f1,f6,f7,f8,f10,f11,hwj];have hVd:valQ (a.drop j)=V*10000+x.toNat:=by rw[hd,valQ,<- hV];omega
  have hOj:=hOz j (by omega);have hOd:O.drop j=0::O.drop (j+1):=by
   have hja:=qAU.1 hOj;rw[qA9 hja.1,hja.2]
  have hOd2:(O.set j (lo:Int)).drop j=(lo:Int)::O.drop (j+1):=by
   rw[List.drop_set,if_neg (by omega),qBS,hOd];rfl
  refine hR j _ _ (by omega) ⟨O.set j lo,T1,by omega,by simp[f0],by simp[f1],by simp[f6],by simp,.inl ?_,by simp[hOl],?_,?_,?_,rfl⟩
  . rw[hVd,<- hjoin.2];simp
  . intro d hd;rcases qCF hd with hd|rfl
    . exact hO d hd
    omega
  . intro i hi';rw[qAX (by omega)];exact hOz i (by omega)
  rw[hOd2,hVd,<- hjoin.1,valQ,hOv,qBu];omega
def qgE{m n:Nat}(h:m<=n):(dgs m).length<=(dgs n).length:=by
 by_cases h2:(dgs n).length<(dgs m).length
 . have:=JG h2;omega
 omega
def qls(m n:Nat)(hm:(dgs m).length<=50)(hn:(dgs n).length<=50):Pure prog GG 102 [.sl 1 ((dgs m).map qh) .none,.sl 1 ((dgs n).map qh) .none] (.sl 1 ((dgs (Nat.gcd m n)).map qh) .none):=by
 refine qFm qg func102 rfl (by kernel_rfl) ?_;simp;refine qFu (fun k ev U=>∃x y:Nat,k=y/\ev 0=.sl 1 ((dgs x).map qh) .none/\ev 1=.sl 1 ((dgs y).map qh) .none/\(dgs x).length<=50/\(dgs y).length<=50/\Nat.gcd x y=Nat.gcd m n) n ⟨m,n,rfl,by simp,by simp,hm,hn,rfl⟩ ?_;rintro k ev U R hR ⟨x,y,rfl,e0,e1,hx,hy,hg⟩;by_cases h0:k=0
 . subst h0;rw[jW]at e1;rw[Nat.gcd_zero_right]at hg;subst hg;simp[e0,e1]
 have hd:=Wu x k (qDj h0) hx hy;have hml:=qDo x (qDj h0);have hl2:=qgE (qEe hml);have hne:dgs k≠[]:=fun e=>h0 (qa7.1 e)
 have hg2:Nat.gcd k (x%k)=Nat.gcd m n:=by rw[<- hg,qDu x k,qEW k x,qDu]
 generalize x/k=q at *;generalize x%k=r at *;have hlen:=qBf.2 hne;simp[e0,e1,hlen];refine qFp hd (by simp) ?_;simp[e0,e1];exact hR r _ _ hml ⟨k,r,rfl,by simp,by simp,hy,by omega,hg2⟩
def qcP(m:Nat)(hm:(dgs m).length<=100):Pure prog GG 104 [.sl 1 ((dgs m).map qh) .none,.bool false] (.tup [.int .i64 ((if m<9223372036854775808 then m else 0:Nat):Int),.bool (decide (m<9223372036854775808))]):=by
 refine qFm qg func104 rfl (by kernel_rfl) ?_;have hs:=vg 9223372036854775807 (by decide);have hlim:(dgs 9223372036854775807).length<=50:=ko (by decide);have ho:=qfW m 9223372036854775807 (by omega) (by omega);have ha:=kw m;have va:=js m;by_cases h0:m<9223372036854775808
 case neg=>
  rw[if_neg (by omega),if_pos (by omega)]at ho;generalize dgs 9223372036854775807=L at *;simp[h0];refine qFp hs (by simp) ?_;simp;refine qFp ho (by simp) ?_;simp
 have hle:(if m<9223372036854775807 then(-1:Int) else if 9223372036854775807<m then 1 else 0)<=0:=by
  rw[if_neg (c:=9223372036854775807<m) (by omega)];split<;>omega
 generalize (if m<9223372036854775807 then(-1:Int) else if 9223372036854775807<m then 1 else 0)=cv at *;generalize dgs 9223372036854775807=L at *;generalize dgs m=a at *;have hwN:=wr (n:=(a.length:Int)-1) (by omega) (by omega);have hcv:¬0<cv:=by omega
 simp[h0];refine qFp hs (by simp) ?_;simp;refine qFp ho (by simp) ?_;simp[hcv,hwN];refine qFu (fun k ev U=>k<=a.length/\ev 0=.sl 1 (a.map qh) .none/\ev 1=.bool false/\ev 7=.int .i64 (valQ (a.drop k):Nat)/\ev 8=.int .i64 ((k:Int)-1)) a.length ⟨qA5 _,by simp,by simp,by simp[valQ],by simp⟩ ?_;rintro k ev U R hR ⟨hk,e0,e1,e7,e8⟩
 cases k with
 | zero=>
  rw[qBZ,va]at e7;simp[e0,e1,e7,e8]
 | succ j=>
  obtain⟨x,hx⟩:∃x,a[j]?=some x:=⟨_,qAW (by omega)⟩;have hxd:=ha x (qAV hx);have hd:a.drop j=x::a.drop (j+1):=by
   have hja:=qAU.1 hx;rw[qA9 hja.1,hja.2]
  have hsp:=qaj (a.take j) (a.drop j);rw[qBF,va]at hsp;have hle2:valQ (a.drop j)<=m:=by
   have:=Nat.le_mul_of_pos_left (valQ (a.drop j)) (qEV (n:=(a.take j).length) (show 0<10000 by decide));omega
  rw[hd,valQ]at hle2;have e8':ev 8=.int .i64 (j:Int):=by rw[e8];congr 1;omega
  have hwj:=wr (n:=(j:Int)-1) (by omega) (by omega);obtain⟨V,hV⟩:∃V,V=valQ (a.drop (j+1)):=⟨_,rfl⟩;rw[<- hV]at e7 hle2;have hw1:=wr (n:=10000*(V:Int)) (by omega) (by omega);have hw2:=wr (n:=10000*(V:Int)+x) (by omega) (by omega);simp[-getElem?_pos,e0,e1,e7,e8',hx,hw1,hw2,hwj];refine hR j _ _ (by omega) ⟨by omega,by simp[e0],by simp[e1],?_,by simp⟩;simp only[upd];simp;rw[hd,valQ,<- hV];omega
def Kw(m n:Nat)(h0:0<n)(hm:(dgs m).length<=50)(hn:(dgs n).length<=50):
 Pure prog GG 54 [.bool false,.sl 1 ((dgs m).map qh) .none,.sl 1 ((dgs n).map qh) .none] (.tup [.agg [.int .i64 (Vt (m/Nat.gcd m n) (n/Nat.gcd m n)).1,.int .i64 (Vt (m/Nat.gcd m n) (n/Nat.gcd m n)).2.1],.int .i64 (Vt (m/Nat.gcd m n) (n/Nat.gcd m n)).2.2]):=by
 refine qFm qg func54 rfl (by kernel_rfl) ?_;have hg:0<Nat.gcd m n:=qB4 _ h0;have c1:=qls m n hm hn;have hgl:=qgE (Nat.gcd_le_right m h0);have c2:=Wu m (Nat.gcd m n) hg hm (by omega);have c3:=Wu n (Nat.gcd m n) hg hn (by omega);have l1:=qgE (qBQ m (Nat.gcd m n));have l2:=qgE (qBQ n (Nat.gcd m n));have c4:=qcP (m/Nat.gcd m n) (by omega);have c5:=qcP (n/Nat.gcd m n) (by omega);generalize Nat.gcd m n=g at *;generalize m/g=p at *;generalize n/g=q at *;generalize m%g=r1 at *;generalize n%g=r2 at *;simp;refine qFp c1 (by simp) ?_;simp;refine qFp c2 (by simp) ?_;simp;refine qFp c3 (by simp) ?_;simp;refine qFp c4 (by simp) ?_;simp;refine qFp c5 (by simp) ?_;unfold Vt;by_cases h1:p<9223372036854775808
 . by_cases h2:q<9223372036854775808
   . simp[h1,h2,unA]
   . simp[h1,h2,unA]
 simp[h1,unA]
def QP{n:Nat}(h:n<9223372036854775808):(dgs n).length<=5:=ko (qEK h (by decide))
def qkq(a b:Nat)(ha:a<9223372036854775808)(hb:b<9223372036854775808)(h0:0<b):
 Pure prog GG 27 [.int .i64 a,.int .i64 b] (.tup [.agg [.int .i64 (yt a b).1,.int .i64 (yt a b).2],.int .i64 0]):=by
 refine qFm qg func27 rfl (by kernel_rfl) ?_;have h1:a/Nat.gcd a b<9223372036854775808:=qB3 (qBQ _ _) ha;have h2:b/Nat.gcd a b<9223372036854775808:=qB3 (qBQ _ _) hb;have f1:=QP ha;have f2:=QP hb;have c1:=vg a ha;have c2:=vg b hb;have c3:=Kw a b h0 (by omega) (by omega);unfold Vt at c3;rw[if_pos ⟨h1,h2⟩]at c3;unfold yt;have a1:¬(a:Int)<0:=by omega
 have a2:¬(b:Int)<0:=by omega
 have a3:¬(b:Int)=0:=by omega
 have a4:¬b=0:=by omega
 generalize a/Nat.gcd a b=x at *;generalize b/Nat.gcd a b=y at *;simp[a1,a2,a3,a4];refine qFp c1 (by simp) ?_;simp;refine qFp c2 (by simp) ?_;simp[a1,a2,a3,a4];refine qFp c3 (by simp) ?_;simp
def qfi(a b:Nat)(ha:a<9223372036854775808)(hb:b<9223372036854775808)(h0:0<b)(hc:Nat.gcd a b=1):
 Pure prog GG 56 [.agg [.int .i64 a,.int .i64 b]] (.bool true):=by
 refine qFm qg func56 rfl (by kernel_rfl) ?_;have hb1:¬(b:Int)<1:=by omega
 have hm:=qkq a b ha hb h0;unfold yt at hm;rw[hc,qD7,qD7]at hm;simp[hb1];refine qFp hm (by simp) ?_;simp[qgC]
def qr2{a b c d:Nat}(hb:0<b)(hd:0<d)(hab:Nat.gcd a b=1)(hcd:Nat.gcd c d=1):
 a*c/Nat.gcd (a*c) (b*d)=qhG a b c d/\b*d/Nat.gcd (a*c) (b*d)=qhH a b c d:=by
 have hcop:=Qc hb hd hab hcd;have hg:0<Nat.gcd a d:=qB4 _ hd;have hh:0<Nat.gcd c b:=qB4 _ hb;obtain⟨A,hA⟩:=qC4 a d;obtain⟨D,hD⟩:=qCE a d;obtain⟨C,hC⟩:=qC4 c b;obtain⟨B,hB⟩:=qCE c b;have eA:a/Nat.gcd a d=A:=by
  conv=>lhs;lhs;rw[hA]
  exact qCT _ hg
 have eD:d/Nat.gcd a d=D:=by
  conv=>lhs;lhs;rw[hD]
  exact qCT _ hg
 have eC:c/Nat.gcd c b=C:=by
  conv=>lhs;lhs;rw[hC]
  exact qCT _ hh
 have eB:b/Nat.gcd c b=B:=by
  conv=>lhs;lhs;rw[hB]
  exact qCT _ hh
 unfold qhG qhH at hcop⊢;rw[eA,eB,eC,eD]at hcop⊢;generalize Nat.gcd a d=g at *;generalize Nat.gcd c b=h at *;have e1:a*c=g*h*(A*C):=by rw[hA,hC,qEh]
 have e2:b*d=g*h*(B*D):=by rw[hB,hD,qCZ (h*B),qEh,qCZ D B]
 have hk:0<g*h:=qDF hg hh;rw[e1,e2,Nat.gcd_mul_left,hcop,qEZ,qCT _ hk,qCT _ hk];exact⟨rfl,rfl⟩
def qu0(a b c d:Nat)(ha:a<9223372036854775808)(hb:b<9223372036854775808)(h0:0<b)(hab:Nat.gcd a b=1)(hc:c<9223372036854775808)(hd:d<9223372036854775808)(h1:0<d)(hcd:Nat.gcd c d=1):
 Pure prog GG 28 [.agg [.int .i64 a,.int .i64 b],.agg [.int .i64 c,.int .i64 d]] (.tup [.agg [.int .i64 (yk a b c d).1,.int .i64 (yk a b c d).2.1],.int .i64 (yk a b c d).2.2]):=by
 refine qFm qg func28 rfl (by kernel_rfl) ?_;have v1:=qfi a b ha hb h0 hab;have v2:=qfi c d hc hd h1 hcd;have sa:=vg a ha;have sb:=vg b hb;have sc:=vg c hc;have sd:=vg d hd;have fa:=QP ha;have fb:=QP hb;have fc:=QP hc;have fd:=QP hd;have t1:=Yv (dgs a) (dgs c) (kw a) (kw c) (by omega) (by omega);have t2:=Yv (dgs b) (dgs d) (kw b) (kw d) (by omega) (by omega);rw[js,js]at t1 t2;have l1:(dgs (a*c)).length<=10:=ko (qB3 (qCQ (show a<=9223372036854775807 by omega) (show c<=9223372036854775807 by omega)) (by decide));have l2:(dgs (b*d)).length<=10:=ko (qB3 (qCQ (show b<=9223372036854775807 by omega) (show d<=9223372036854775807 by omega)) (by decide));have hq:=Kw (a*c) (b*d) (qDF h0 h1) (by omega) (by omega);obtain⟨r1,r2⟩:=qr2 h0 h1 hab hcd;rw[r1,r2]at hq;have a1:¬(a:Int)<0:=by omega
 have a2:¬(c:Int)<0:=by omega
 unfold yk;generalize Vt (qhG a b c d) (qhH a b c d)=rs at *;generalize a*c=ac at *;generalize b*d=bd at *;simp;refine qFp v1 (by simp) ?_;simp;refine qFp v2 (by simp) ?_;simp[a1,a2];refine qFp sa (by simp) ?_;simp;refine qFp sc (by simp) ?_;simp;refine qFp t1 (by simp) ?_;simp;refine qFp sb (by simp) ?_;simp;refine qFp sd (by simp) ?_;simp;refine qFp t2 (by simp) ?_;simp[a1,a2];refine qFp hq (by simp) ?_;simp
def qpp(n):∃k p,IntKind.i64.wrap n=p/\p=n+18446744073709551616*k/\-9223372036854775808<=p/\p<9223372036854775808:=by
 refine⟨(IntKind.i64.wrap n-n)/18446744073709551616,_,rfl,?_,?_,?_⟩
 all_goals
  simp only[IntKind.wrap,IntKind.bits,IntKind.signed];simp;omega
def ZM(n)(h0:-9223372036854775807<=n)(h1:n<=9223372036854775807):Pure prog GG 230 [.int .i64 n] (.int .i64 (if 0<n then -n else n)):=by
 refine qFm qg func230 rfl (by kernel_rfl) ?_;by_cases h:0<n
 . simp[h,unA,show IntKind.i64.wrap (-n) = -n from wr (by omega) (by omega)]
 simp[h]
def qrG{a b p k}(hp:p=a*b+18446744073709551616*k)(hk:k≠0)(ha:-9223372036854775807<=a)(ha1:a<=9223372036854775807)(hb:-9223372036854775807<=b)(hb1:b<=9223372036854775807)(hb0:b≠0)
 (h0:-9223372036854775808<=p) (h1:p<9223372036854775808) (hbig:9223372036854775808<=a*b):IntKind.i64.wrap (p.tdiv b)≠a:=by
 intro he;have hdm:=Int.mul_tdiv_add_tmod p b;have hr:(p.tmod b).natAbs<b.natAbs:=by
  rw[Int.natAbs_tmod];exact qDo _ (by omega)
 obtain⟨q,hq⟩:∃q,p.tdiv b=q:=⟨_,rfl⟩;obtain⟨r,hre⟩:∃r,p.tmod b=r:=⟨_,rfl⟩;rw[hq]at he hdm;rw[hre]at hdm hr;have hqa:q.natAbs<=p.natAbs:=by rw[<- hq,Int.natAbs_tdiv];exact qBQ _ _
 have hq2:q=a\/(q=9223372036854775808/\a = -9223372036854775808):=by
  obtain⟨k2,p2,e1,e2,e3,e4⟩:=qpp q;rw[e1]at he;omega
 rcases hq2 with rfl|⟨_,h⟩
 . rw[Int.mul_comm]at hdm;omega
 omega
def qed(a b:Int)(P:Nat)(hP:a*b=P)(ha:-9223372036854775807<=a)(ha1:a<=9223372036854775807)(hb:-9223372036854775807<=b)(hb1:b<=9223372036854775807):
 Pure prog GG 101 [.int .i64 a,.int .i64 b] (.tup [.int .i64 (J6 P).1,.int .i64 (J6 P).2]):=by
 refine qFm qg func101 rfl (by kernel_rfl) ?_;generalize hr:J6 P=r;unfold J6 at hr;by_cases ha0:a=0
 . subst ha0;have:P=0:=by omega
   subst this;simp at hr;subst hr;simp
 by_cases hb0:b=0
 . subst hb0;have:P=0:=by omega
   subst this;simp at hr;subst hr;simp[ha0]
 have hal:¬a = -9223372036854775808:=by omega
 have hbl:¬b = -9223372036854775808:=by omega
 obtain⟨k,p,hw,hpk,hp0,hp1⟩:=qpp (a*b);by_cases hf:P<9223372036854775808
 . rw[if_pos hf]at hr;subst hr;have hpP:p=a*b:=(by omega);have hq:IntKind.i64.wrap (p.tdiv b)=a:=by
    rw[hpP,Int.mul_tdiv_cancel _ hb0,wr (by omega) (by omega)]
   rw[hP]at hw hpP;rw[hpP]at hw hq;rw[qBT (by omega)]at hq;simp[ha0,hb0,hal,hbl,hw,hq,hP]
 rw[if_neg hf]at hr;subst hr;have hq:=qrG (a:=a) (b:=b) (p:=p) (k:=k) hpk (by omega) ha ha1 hb hb1 hb0 hp0 hp1 (by omega);simp[ha0,hb0,hal,hbl,hw,hq]
def qrq(a b:Nat)(ha:0<a)(hb:0<b)(ha1:a<=9223372036854775807)(hb1:b<=9223372036854775807):Pure prog GG 231 [.int .i64 a,.int .i64 b] (.int .i64 (Nat.gcd a b:Nat)):=by
 have h1:=ZM a (by omega) (by omega);have h2:=ZM b (by omega) (by omega);rw[if_pos (by omega)]at h1 h2;refine qFm qg func231 rfl (by kernel_rfl) ?_;generalize hgg:Nat.gcd a b=g at *;simp;refine qFp h1 rfl ?_;simp;refine qFp h2 rfl ?_;simp;refine qFu (fun n ev U=>∃x y:Nat,n=y/\x<=9223372036854775807/\y<=9223372036854775807/\ev 5=.int .i64 (-(x:Int))/\ev 6=.int .i64 (-(y:Int))/\Nat.gcd x y=g) b ⟨a,b,rfl,ha1,hb1,by simp,by simp,hgg⟩ ?_;rintro y ev U R hR ⟨x,_,rfl,hx,hy,h5,h6,hgx⟩;by_cases hz:y=0
 . subst hz;simp at hgx;subst hgx;simp[h5,h6,show ¬(-(x:Int)) = -9223372036854775808 by omega,unA,show IntKind.i64.wrap (x:Int)=x from wr (by omega) (by omega)]
 have hm:(-(x:Int)).tmod (-(y:Int)) = -((x%y:Nat):Int):=by
  rw[Int.tmod_neg,Int.neg_tmod,qCf (by omega)];omega
 simp[h5,h6,hz,hm];refine hR (x%y) _ _ (qDo _ (by omega)) ⟨y,x%y,rfl,hy,by have:=qDo x (show 0<y by omega);omega,by simp,by simp,?_⟩
 rwa[qDu y,<- qEW,qDu]
def qro(a b:Nat)(ha:0<a)(hb:0<b)(ha1:a<=9223372036854775807)(hb1:b<=9223372036854775807):Pure prog GG 155 [.int .i64 a,.int .i64 b] (.tup [.int .i64 (J6 (Nat.lcm a b)).1,.int .i64 (J6 (Nat.lcm a b)).2]):=by
 have h1:=ZM a (by omega) (by omega);have h2:=ZM b (by omega) (by omega);rw[if_pos (by omega)]at h1 h2;have hgc:=qrq a b ha hb ha1 hb1;have hg:=qER b ha;have hgl:=qDn ha (qC4 a b);have hlcm:a/Nat.gcd a b*b=Nat.lcm a b:=by
  unfold Nat.lcm;exact qE1 (qC4 a b) b
 have hq:a/Nat.gcd a b<=a:=qBQ _ _;obtain⟨g,hge⟩:∃g,Nat.gcd a b=g:=⟨_,rfl⟩;obtain⟨q,hqe⟩:∃q,a/g=q:=⟨_,rfl⟩;obtain⟨l,hle⟩:∃l,Nat.lcm a b=l:=⟨_,rfl⟩;rw[hge]at hg hgl hlcm hq hgc;rw[hqe]at hlcm hq;rw[hle]at hlcm⊢;have hmul:=qed (-(q:Int)) (-(b:Int)) l (by rw[Int.neg_mul_neg,<- hlcm];simp) (by omega) (by omega) (by omega) (by omega);have hdiv:(-(a:Int)).tdiv g = -(q:Int):=by
  rw[Int.neg_tdiv,qBT (by omega)];omega
 refine qFm qg func155 rfl (by kernel_rfl) ?_;simp[show ¬a=0 by omega,show ¬b=0 by omega,show ¬(a:Int) = -9223372036854775808 by omega,show ¬(b:Int) = -9223372036854775808 by omega];refine qFp h1 rfl ?_;simp;refine qFp hgc rfl ?_;simp[show ¬g=0 by omega,hdiv,show IntKind.i64.wrap (-(q:Int)) = -(q:Int) from wr (by omega) (by omega)];refine qFp h2 rfl ?_;simp;refine qFp hmul rfl ?_;simp
