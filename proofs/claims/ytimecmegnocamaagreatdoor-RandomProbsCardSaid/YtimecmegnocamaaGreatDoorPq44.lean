import Derived.RangeFuncBox
import Derived.RangeFuncLeaves
import Derived.Shelf.Abstract
import Derived.WalkKit
import Derived.OwnWalkIn
import Derived.TacticsInMore
import Derived.LoopNIn
import Derived.LoopIn
import Derived.RegionIn
import Derived.OrdersIn
import Derived.Test.YtimecmegnocamaaGreatDoorPq43
import Derived.SizedLaws
import Derived.Test.YtimecmegnocamaaGreatDoorRows
import Derived.Test.YtimecmegnocamaaGreatDoorTie
import Derived.Test.YtimecmegnocamaaGreatDoorCards
import Derived.ProofKit
import Derived.LaidMore
import Derived.OpenShut
import Derived.Stop.Joined
import Derived.SevenTiedAt
import Derived.WideKeyArgs
import Derived.MakeChecks
set_option maxRecDepth 100000
set_option maxHeartbeats 16000000
set_option linter.all false
set_option linter.defProp false
namespace Go.Proofs.YtimecmegnocamaaGreatDoor
open Go Go.Abs Go.RowKit Go.Shelf Proofs.Tryz Go.ChangeShapes Go.WideShapes Go.ChangeAt
section
attribute [local go_sem] Oper.semAt_some
def qq9{K}{l:List Int}{tok v}(h:qk K (.sl 1 (l.map fun n=>[.int .i64 n]) tok) v):
 ∃a cap,v=.slice a l.length cap/\∀j n,l[j]?=some n->∃B off,a=some ⟨B,off,none⟩/\K.ro B (off+j)=some (.int .i64 n):=by
 simp only[qk]at h;rcases h with⟨⟨a,rfl,_⟩,h0,_⟩|⟨B,off,cap,rfl,hcap,hrows,_⟩
 . have:l=[]:=by simpa using h0
   subst this;exact⟨a,0,rfl,fun j n e=>by simp at e⟩
 refine⟨some ⟨B,off,none⟩,cap,by simp,fun j n e=>⟨B,off,rfl,?_⟩⟩;obtain⟨_,_,h3⟩:=qT.get B 1 _ off hrows j [.int .i64 n] (by simp[e]);simp only[qr,qk]at h3;obtain⟨⟨v,hv,rfl⟩,_⟩:=h3;simpa using hv
def qyP(G)(l:List Int)(tok)(hlen:l.length<2^62):qxD prog G 115 [.rptr [.sl 1 (l.map fun n=>[.int .i64 n]) tok]] (fun _=>True) (l.map fun n=>.int .i64 n):=by
 refine⟨by kernel_rfl,?_⟩;intro w0 ro0 L K U w vcap S hw hcap _ hS hround;simp only[ql]at hcap;obtain⟨v0,vr,e0,hp,rfl⟩:=hcap;have evs:vcap = #[v0]:=by apply Array.ext';simpa using e0
 subst evs;simp only[qk,qr]at hp;obtain⟨Bs,os,rfl,⟨v,hro,hv⟩,_⟩:=hp;obtain⟨a0,cap,rfl,hcell⟩:=qq9 hv;have hBs:=(fun K' U' w' h1 h2=>h2.ro _ _ _ (h1.ro _ _ _ hro)) K U w (qFG K) hw;refine callsIn_of_wp func115 rfl trivial ?_ rfl;simp only[Tryz.ntmps115,qD4,qBc,qB8,Nat.reduceAdd,Nat.reduceSub,Array.replicate_succ,Array.replicate_zero,List.push_toArray,List.append_toArray,qBk,qBl]
 gi_wp2
 gi_loopw [7] (fun i wr=>∃k:Nat,k<=l.length/\i=.int .i64 k/\∃K' U',K.le K'/\WRel G w0 ro0 K' U' wr/\S k U')
  (fun i _=>l.length-(intOf i).toNat)
 case atStart=>exact⟨0,qCO _,rfl,K,U,qFG K,hw,hS⟩
 case round=>
  obtain⟨k,hk,rfl,K1,U1,hle1,hw1,hS1⟩:=hrel;by_cases hlt:k<l.length
  . obtain⟨B,off,rfl,hro1⟩:=hcell k l[k] (by simp[hlt]);have hcx:wr.cell? ⟨B,off+k,none⟩=some (.int .i64 l[k]):=hw1.ro _ _ _ (hle1.ro _ _ _ hro1);obtain⟨fn,tmps,assign,body,hy,hR⟩:=hround k (.int .i64 l[k]) U1 K1 wr (by simp[hlt]) hS1 hle1 hw1 _ rfl
    gi_wp2
    refine⟨rfl,hR.mono ?_⟩;rintro e W3 ⟨rfl,K2,U2,hle2,hw2,hS2⟩
    gi_wp2
    go_roundw
    case rel=>exact⟨k+1,by omega,by simp,K2,U2,qFH hle1 hle2,hw2,hS2⟩
    case measure=>simp[intOf];omega
  obtain rfl:k=l.length:=by omega
  gi_wp2
  refine bodyPost_end (results_none rfl _ _ _) rfl ?_;exact⟨⟨_,rfl⟩,K1,U1,hle1,hw1,by simpa using hS1⟩
end
section
attribute [local go_sem] Oper.semAt_some
end
abbrev Yj(l:List Int):List (List AV):=l.map fun n=>[.int .i64 n]
def qz8(v:AV)(U:St)(l:List Int):Prop:=(l=[]/\v=.sl 0 [] .nil)\/∃b,v=.ms b 0 l.length 1/\l≠[]/\U.H[b]?=some (.cells (l.map fun n=>.int .i64 n))
def qz6(U:St)(n0:Nat)(l:List Int)(i:Nat)(τ:St):Prop :=
 τ.T=U.T/\(∀k<n0,τ.H[k]?=U.H[k]?)/\∃v,τ.H[n0]?=some (.cells [v])/\((i=0/\v=.sl 0 [] .nil)\/∃b,v=.ms b 0 i 1/\0<i/\n0<b/\τ.H[b]?=some (.cells ((l.take i).map fun n=>.int .i64 n)))
def qzL(U:St)(l:List Int)(v:AV)(τ:St):Prop:=τ.T=U.T/\(∀k<U.H.length,τ.H[k]?=U.H[k]?)/\qz8 v τ l
def ql3(H T n):zx (Dof prog) ⟨H,T⟩ 28 28 (.sl 0 [] .nil) (.sl 1 [[.int .i64 n]] .tight)=some (.ms H.length 0 1 1,⟨H++[.cells [.int .i64 n]],T⟩):=by
 simp[zx,ja,Kc,qV,St.push]
def qpa(H T n b i c)(hb:H[b]?=some (.cells c))(hc:c.length=i)(hi:i<2^28):zx (Dof prog) ⟨H,T⟩ 28 28 (.ms b 0 i 1) (.sl 1 [[.int .i64 n]] .tight)=some (.ms H.length 0 (i+1) 1,⟨H.set b .dead++[.cells (c++[.int .i64 n])],T⟩):=by
 simp[zx,ja,Kc,qV,hb,show i+1<=549755813888 by omega,hc,show c.take i=c from qAZ (by omega)]
def qdx(U l tok)(hlen:l.length<2^28):
 qj prog GG 163 [.sl 0 [] .nil,.fn 115 [] [.rptr [.sl 1 (Yj l) tok]]] U (qzL U l):=by
 refine qFn ⟨true,[],[],[]⟩ qg func163 rfl (by kernel_rfl) ?_;simp;refine qkC (qch _) (fun _=>True) (l.map fun n=>.int .i64 n) (qz6 U U.H.length l) (by simp[ev]) (qyP GG l tok (by omega)) (fun _ _ _=>trivial) ?_ ?_ ?_
 . refine⟨rfl,fun k hk=>?_,.sl 0 [] .nil,?_,.inl ⟨rfl,rfl⟩⟩
   . simp[qBa hk]
   . simp
 . rintro i v τ hi ⟨h1,h2,w,h3,h4⟩;obtain⟨n,hn,rfl⟩:∃n,l[i]?=some n/\v=.int .i64 n:=by
    simp only[qBp,qA2]at hi;obtain⟨n,a,b⟩:=hi;exact⟨n,a,b.symm⟩
   have hil:i<l.length:=(qAU.1 hn).1;obtain⟨H,T⟩:=τ;simp only at h1 h2 h3 h4;simp[h3];have hnl:=(qAU.1 h3).1;have htk:(l.take (i+1)).map (fun n=>AV.int .i64 n)=(l.take i).map (fun n=>AV.int .i64 n)++[.int .i64 n]:=by
    rw[qBi,hn];simp
   rcases h4 with⟨rfl,rfl⟩|⟨b,rfl,hi0,hb,hcb⟩
   . rw[ql3];simp[qBa hnl,h3];refine⟨h1,fun k hk=>?_,.ms H.length 0 1 1,?_,.inr ⟨H.length,rfl,by omega,hnl,?_⟩⟩
     . simp only;rw[qAX (by omega),qBa (by omega)];exact h2 k hk
     . simp only;rw[qA0 (by simp;omega)]
     simp only;rw[qAX (by omega),qA4 (qA5 _),htk];simp
   have hcl:((l.take i).map fun n=>AV.int .i64 n).length=i:=(by simp;omega);rw[qpa H T n b i _ hcb hcl (by omega)];have hbl:b<H.length:=(qAU.1 hcb).1;have h3':(H.set b .dead++[.cells ((l.take i).map (fun n=>AV.int .i64 n)++[.int .i64 n])])[U.H.length]?=some (.cells [.ms b 0 i 1]):=by
    rw[qBa (by simpa using hnl),qAX (by omega),h3]
   generalize hH':H.set b .dead++[.cells ((l.take i).map (fun n=>AV.int .i64 n)++[.int .i64 n])]=H' at h3';simp[h3'];have hl':H'.length=H.length+1:=(by rw[<- hH'];simp);refine⟨h1,fun k hk=>?_,.ms H.length 0 (i+1) 1,?_,.inr ⟨H.length,rfl,by omega,hnl,?_⟩⟩
   . simp only;rw[qAX (by omega),<- hH',qBa (by simp;omega),qAX (by omega)];exact h2 k hk
   . simp only;rw[qA0 (by omega)]
   simp only;rw[qAX (by omega),htk,<- hH',qA4 (by simp)];simp
 rintro τ ⟨h1,h2,w,h3,h4⟩;simp[h3];refine⟨h1,h2,?_⟩;simp only[qBA,qCr]at h4;rcases h4 with⟨h0,rfl⟩|⟨b,rfl,h0,hb,hc⟩
 . exact .inl ⟨qA6 h0,rfl⟩
 exact .inr ⟨b,rfl,fun e=>by rw[e]at h0;simp at h0,hc⟩
def qio(U l tok)(hlen:l.length<2^28):
 qj prog GG 113 [.fn 115 [] [.rptr [.sl 1 (Yj l) tok]]] U (qzL U l):=by
 refine qFo qg func113 rfl (by kernel_rfl) ?_;simp;refine qFs (qdx U l tok hlen) ?_;rintro v τ h;simp;exact h
def qzd:IntKind.i64.wrap 1=1:=wr (by omega) (by omega)
def qiH:List Int->Int->List Int
 |[],x=>[x]
 |y::r,x=>if x<y then y::qiH r x else x::y::r
def qgi(s:List Int)(x:Int):List Int:=(qiH s.reverse x).reverse
def wX(l:List Int):List Int:=l.foldl qgi []
def qgh:∀(s) (x),(qiH s x).length=s.length+1
 |[],x=>rfl
 |y::r,x=>by unfold qiH;split<;>simp[qgh r x]
def qoa(s x):(qgi s x).length=s.length+1:=by simp[qgi,qgh]
def Jv(l x):wX (l++[x])=qgi (wX l) x:=by simp[wX,qBX]
def KZ:∀(n) (l),l.length=n->(wX l).length=n:=by
 intro n
 induction n with
 |zero=>intro l h;rw[qA6 h];rfl
 | succ n ih=>
  intro l h;have hne:l≠[]:=fun e=>by rw[e]at h;simp at h
  rw[<- qB9 hne,Jv,qoa,ih _ (by simp[h])]
def qcR{A B x}(h:∀y∈B,x<y):qgi (A++B) x=qgi A x++B:=by
 unfold qgi;rw[qDP];have:∀(C D:List Int),(∀y∈C,x<y)->qiH (C++D) x=C++qiH D x:=by
  intro C D hC
  induction C with
  |nil=>rfl
  | cons c C ih=>
   have:=hC c (by simp);rw[qBl,qiH,if_pos this,ih fun y hy=>hC y (by simp[hy])];rfl
 rw[this _ _ fun y hy=>h y (by simpa using hy),qDP,List.reverse_reverse]
def qn8(x):qgi [] x=[x]:=rfl
def qkG{A y x}(h:¬x<y):qgi (A++[y]) x=A++[y,x]:=by
 unfold qgi;rw[qDP];show(qiH (y::A.reverse) x).reverse=_;rw[qiH,if_neg h];simp
def qr7(a b):Pure prog GG 239 [.int .i64 a,.int .i64 b] (.bool (decide (a<b))):=by
 have hn:∀z:Int,Pure prog GG 302 [.int .i64 z] (.bool false):=fun z=>by
  refine qFm qg func302 rfl (by kernel_rfl) ?_;simp
 refine qFm qg func239 rfl (by kernel_rfl) ?_;simp;refine qFp (hn a) rfl ?_;simp
def qnn:List (Nat×Sch×List Nat):=[(6,.step 0 [17,16,15,14] (.step 1 [17,16,15,14] (.step 2 [17,16] (.step 3 [17,16,4] (.step 4 [17,16] (.step 5 [17,16,15,14,9,8] (.step 6 [17,16,15,14,9,8,7] (.step 7 [17,16,15,14,9,8] (.step 8 [17,16,15,14,9] (.step 9 [17,16,15,14] (.step 10 [17,16,15,14,13,12] (.step 11 [17,16,15,14,13,12] (.step 12 [17,16,15,14,13] (.step 13 [17,16,15,14] (.step 14 [17,16,15] (.step 15 [17,16] (.step 16 [17] (.step 17 [] (.done)))))))))))))))))),[])]
def qxC(b:Nat)(l:List Int)(H:List Blk)(T:List (Option Nat))(r:AV)(τ:St):Prop:=τ=⟨H.set b (.cells (zb (wX l))),T⟩
def qkn{A B x j}(h:A.length=j):(zb (A++x::B)).drop j=.int .i64 x::zb B:=by
 subst h;unfold zb;rw[qBV,qCB (by simp),qBq (by simp)];simp
def qsl{b l}(hl:l.length<=1000){H T}(hb:H[b]?=some (.cells (zb l))):
 qj prog GG 233 [.ms b 0 l.length 1,.int .i64 0,.int .i64 l.length] ⟨H,T⟩ (qxC b l H T):=by
 refine qFn ⟨false,qnn,[],[]⟩ qg func233 rfl (by kernel_rfl) ?_;have hbl:=(qAU.1 hb).1;simp;refine qFu (fun n ev U=>ev 0=.ms b 0 l.length 1/\ev 1=.int .i64 0/\ev 2=.int .i64 l.length/\∃i,n=l.length+1-i/\1<=i/\(i<=l.length\/i=1)/\ev 6=.int .i64 (i:Int)/\U=⟨H.set b (.cells (zb (wX (l.take i)++l.drop i))),T⟩) l.length ?_ ?_
 . refine⟨by simp,by simp,by simp,1,by omega,by omega,.inr rfl,by simp[qzd],?_⟩;have:wX (l.take 1)++l.drop 1=l:=by
    cases l with
    |nil=>rfl
    |cons a r=>rfl
   rw[this];have:H.set b (.cells (zb l))=H:=by
    apply qB2;intro j;by_cases hj:b=j
    . subst hj;rw[qA0 hbl,hb]
    rw[qAX hj]
   rw[this]
 rintro n ev U R hR ⟨e0,e1,e2,i,rfl,hi1,hi2,e6,rfl⟩;by_cases hil:i<l.length
 . have hil':(i:Int)<l.length:=(by omega);have hw1:=wr (n:=(i:Int)+1) (by omega) (by omega);obtain⟨x,hx⟩:∃x,l[i]?=some x:=⟨_,qAW hil⟩;have hdr:l.drop i=x::l.drop (i+1):=by
    obtain⟨h1,h2⟩:=qAU.1 hx;rw[qA9 h1,h2]
   have htk:wX (l.take (i+1))=qgi (wX (l.take i)) x:=(by rw[qBi,hx];exact Jv _ _);have hSl:(wX (l.take i)).length=i:=KZ _ _ (by simp;omega);rw[hdr];generalize wX (l.take i)=S at *;generalize hDD:l.drop (i+1)=D at *;have hDl:D.length=l.length-(i+1):=(by rw[<- hDD];simp);simp[*];refine qFu (fun n ev U=>ev 0=.ms b 0 l.length 1/\ev 1=.int .i64 0/\ev 2=.int .i64 l.length/\ev 6=.int .i64 (i:Int)/\∃j A B,n=j/\j<=i/\ev 7=.int .i64 (j:Int)/\A.length=j/\S=A++B/\(∀y∈B,x<y)/\U=⟨H.set b (.cells (zb (A++x::(B++D)))),T⟩) i ?_ ?_
   . exact⟨by simp[e0],by simp[e1],by simp[e2],by simp[e6],i,S,[],rfl,qA5 _,by simp,hSl,by simp⟩
   rintro n ev U R2 hR2 ⟨e0,e1,e2,e6,j,A,B,rfl,hji,e7,hAl,hSAB,hBx,rfl⟩;have hBl:B.length=i-n:=(by have:=hSl;rw[hSAB,qAY]at this;omega);have fin:∀ev',ev' 0=.ms b 0 l.length 1->ev' 1=.int .i64 0->ev' 2=.int .i64 l.length->ev' 6=.int .i64 ((i+1:Nat):Int)->qgi S x=A++x::B->R ev' ⟨H.set b (.cells (zb (A++x::(B++D)))),T⟩:=fun ev' a0 a1 a2 a6 hins=>by
    refine hR (l.length+1-(i+1)) _ _ (by omega) ⟨a0,a1,a2,i+1,rfl,by omega,.inl (by omega),a6,?_⟩;rw[htk,hins];simp[hDD]
   cases n with
   | zero=>
    have hA0:=qA6 hAl;subst hA0;simp;rw[Ju (by rfl)];simp[*];refine fin _ (by simp[e0]) (by simp[e1]) (by simp[e2]) (by simp) ?_;rw[hSAB];have:=qcR (A:=[]) hBx;simpa[qn8] using this
   | succ j=>
    obtain⟨A',y,rfl⟩:∃A' y,A=A'++[y]:=by
     have hne:A≠[]:=fun e=>by rw[e]at hAl;simp at hAl
     exact⟨A.dropLast,A.getLast hne,(qB9 hne).symm⟩
    have hA'l:A'.length=j:=(by simpa using hAl);have hj1:=wr (n:=((j:Int)+1)-1) (by omega) (by omega);have hjj:((j:Int)+1)-1=j:=(by omega);rw[hjj]at hj1;have hrow:(A'++[y])++x::(B++D)=A'++y::x::(B++D):=(by simp);have hd1:(zb (A'++y::x::(B++D))).drop (j+1)=.int .i64 x::zb (B++D):=by
     have:=qkn (A:=A'++[y]) (x:=x) (B:=B++D) (j:=j+1) (by simpa using hA'l)
     rwa[hrow]at this
    have hd0:(zb (A'++y::x::(B++D))).drop j=.int .i64 y::zb (x::(B++D)):=qkn hA'l;have hlen:(zb (A'++y::x::(B++D))).length=l.length:=(by rw[qR];simp;omega);have hget:∀z:Blk,(H.set b z)[b]?=some z:=fun z=>qA0 hbl
    have hjl:(j:Int)+1<l.length:=(by omega);have hjl0:(j:Int)<l.length:=(by omega);have hjn:(0:Int)<=(j:Int)+1:=(by omega);have hjt:((j:Int)+1).toNat=j+1:=(by omega);have hjl1:j+1+1<=l.length:=(by omega);have hjl2:j+1<=l.length:=(by omega);simp at e7;rw[hrow]at fin⊢;have hlt:=qr7 x y;simp;rw[Ju (by rfl)];simp[*,show(0:Int)<(j:Int)+1 by omega];refine qFp hlt rfl ?_;by_cases hxy:x<y
    . have hs1:(zb (A'++y::x::(B++D))).set (j+1) (.int .i64 y)=zb (A'++y::y::(B++D)):=by
       rw[yL,qBK _ _ (by omega),hA'l,qB0];rfl
      have hs2:(zb (A'++y::y::(B++D))).set j (.int .i64 x)=zb (A'++x::y::(B++D)):=by
       rw[yL,qBK _ _ (by omega),hA'l,qBS];rfl
      simp[hxy];rw[qU rfl];simp[*,zg,show(zb (A'++y::y::(B++D))).length=l.length by rw[qR];simp;omega];exact hR2 j _ _ (by omega) ⟨by simp[e0],by simp[e1],by simp[e2],by simp[e6],j,A',y::B,rfl,by omega,by simp,hA'l,by rw[hSAB];simp,fun z hz=>by
       rcases qBt.1 hz with rfl|hz
       . exact hxy
       exact hBx z hz,by simp⟩
    simp[*];refine fin _ (by simp[e0]) (by simp[e1]) (by simp[e2]) (by simp) ?_;rw[hSAB,qcR hBx,qkG hxy];simp
 have hil':¬(i:Int)<l.length:=by omega
 have hq:qxC b l H T (.tup []) ⟨H.set b (.cells (zb (wX (l.take i)++l.drop i))),T⟩:=by
  rw[show l.take i=l from qAZ (by omega),show l.drop i=[] from qBq (by omega),qBC];rfl
 simp[e2,e6,hil'];exact hq
def qu7(n:Nat)(h:n<=12):Pure prog GG 243 [.int .u64 n] (.int .i64 ((if n=0 then 0 else if n=1 then 1 else if n<4 then 2 else if n<8 then 3 else 4:Nat):Int)):=by
 refine qFm qg func243 rfl (by kernel_rfl) ?_;have h4:IntKind.u8.wrap (n:Int)=n:=by
  have:n=0\/n=1\/n=2\/n=3\/n=4\/n=5\/n=6\/n=7\/n=8\/n=9\/n=10\/n=11\/n=12:=by omega
  rcases this with rfl|rfl|rfl|rfl|rfl|rfl|rfl|rfl|rfl|rfl|rfl|rfl|rfl<;>decide
 simp[show ¬(4294967296:Int)<=n by omega,show ¬(65536:Int)<=n by omega,show ¬(256:Int)<=n by omega,wK,h4];have:n=0\/n=1\/n=2\/n=3\/n=4\/n=5\/n=6\/n=7\/n=8\/n=9\/n=10\/n=11\/n=12:=by omega
 rcases this with rfl|rfl|rfl|rfl|rfl|rfl|rfl|rfl|rfl|rfl|rfl|rfl|rfl<;>simp[wK,show IntKind.i64.wrap 0=0 by decide,show IntKind.i64.wrap 1=1 by decide,show IntKind.i64.wrap 2=2 by decide,show IntKind.i64.wrap 3=3 by decide,show IntKind.i64.wrap 4=4 by decide]
def qr9(n:Nat)(h:n<=12):Pure prog GG 165 [.int .u64 n] (.int .i64 ((if n=0 then 0 else if n=1 then 1 else if n<4 then 2 else if n<8 then 3 else 4:Nat):Int)):=by
 refine qFm qg func165 rfl (by kernel_rfl) ?_;have h1:=qu7 n h;generalize ((if n=0 then 0 else if n=1 then 1 else if n<4 then 2 else if n<8 then 3 else 4:Nat):Int)=m at *;simp;refine qFp h1 rfl ?_;simp
def qrE{b l}(hl:l.length<=12)(m){H T}(hb:H[b]?=some (.cells (zb l))):
 qj prog GG 164 [.ms b 0 l.length 1,.int .i64 0,.int .i64 l.length,m] ⟨H,T⟩ (qxC b l H T):=by
 refine qFo qg func164 rfl (by kernel_rfl) ?_;have hw:=wr (n:=(l.length:Int)) (by omega) (by omega);simp;refine qFu (fun n ev U=>ev 0=.ms b 0 l.length 1/\ev 1=.int .i64 0/\ev 2=.int .i64 l.length/\U=⟨H,T⟩) 0 ⟨by simp,by simp⟩ ?_;rintro n ev U R hR ⟨h0,h1,h2,rfl⟩;simp[h0,h1,h2,hw,show(l.length:Int)<=12 by omega];refine qFs (qsl (by omega) hb) ?_;rintro v τ h;simp;exact h
def qkw:∀n:Nat,n<=12->∃m,Pure prog GG 165 [.int .u64 n] (.int .i64 m):=fun n h=>⟨_,qr9 n h⟩
def qmV{b l}(hl:l.length<=12){H T}(hb:H[b]?=some (.cells (zb l))):
 qj prog GG 114 [.ms b 0 l.length 1] ⟨H,T⟩ (qxC b l H T):=by
 refine qFo qg func114 rfl (by kernel_rfl) ?_;have ec:IntKind.u64.wrap (l.length:Int)=l.length:=by
  have:l.length=0\/l.length=1\/l.length=2\/l.length=3\/l.length=4\/l.length=5\/l.length=6\/l.length=7\/l.length=8\/l.length=9\/l.length=10\/l.length=11\/l.length=12:=by omega
  rcases this with e|e|e|e|e|e|e|e|e|e|e|e|e<;>rw[e]<;>decide
 obtain⟨m,hm⟩:=qkw l.length hl;simp[wK,ec];refine qFp (G:=zl GG) hm (by simp[qw,qO]) ?_;simp;refine qFs (qrE hl _ hb) ?_;rintro v τ h;simp;exact h
def qx1(sz tok U):qj prog GG 114 [.sl sz [] tok] U (fun _ τ=>τ=U):=by
 obtain⟨m,hm⟩:=qkw 0 (by omega);refine qFo qg func114 rfl (by kernel_rfl) ?_;simp[wK,show IntKind.u64.wrap 0=0 by decide];refine qFp (G:=zl GG) hm (by simp[qw,qO]) ?_;simp;have h371:∀τ:St,qj prog GG 233 [.sl sz [] tok,.int .i64 0,.int .i64 0] τ (fun _ τ'=>τ'=τ):=fun τ=>by
  refine qFo qg func233 rfl (by kernel_rfl) ?_;simp;refine qFu (fun _ ev (τ':St)=>ev 6=.int .i64 1/\ev 2=.int .i64 0/\τ'=τ) 0 ⟨by simp[qzd],by simp⟩ ?_;rintro n ev τ' R hR ⟨h6,h2,rfl⟩;simp[h6,h2]
 have h295:qj prog GG 164 [.sl sz [] tok,.int .i64 0,.int .i64 0,.int .i64 m] U (fun _ τ'=>τ'=U):=by
  refine qFo qg func164 rfl (by kernel_rfl) ?_;simp;refine qFu (fun _ ev (τ:St)=>ev 0=.sl sz [] tok/\ev 1=.int .i64 0/\ev 2=.int .i64 0/\τ=U) 0 ⟨by simp,by simp⟩ ?_;rintro n ev τ R hR ⟨h0,h1,h2,rfl⟩;simp[h0,h1,h2,show IntKind.i64.wrap 0=0 by decide];refine qFs (h371 τ) ?_;rintro v τ' rfl;simp
 refine qFs h295 ?_;rintro v τ rfl;simp
def qhr(l)(hl:l.length<=12)(tok):Pure prog GG 64 [.fn 115 [] [.rptr [.sl 1 (Yj l) tok]]] (.sl 1 ((wX l).map qh) .none):=by
 refine qFl o0 true qg func64 rfl (by kernel_rfl) ?_;simp;refine qFs (qio _ l tok (by omega)) ?_;rintro v ⟨H,T⟩ ⟨h1,h2,h3⟩;have hlen:(wX l).length=l.length:=KZ _ _ rfl;have key:∃Q:AV->St->Prop,qj prog GG 114 [v] ⟨H,T⟩ Q/\∀r τ,Q r τ->∃b,jr b 1 qh τ.H v (wX l):=by
  rcases h3 with⟨rfl,rfl⟩|⟨b,rfl,h0,hb⟩
  . exact⟨_,qx1 _ _ _,fun r τ e=>⟨0,.inl ⟨rfl,rfl⟩⟩⟩
  refine⟨_,qmV hl hb,fun r τ e=>⟨b,.inr ⟨fun e=>h0 (qA6 (by rw[<- hlen,e];rfl)),by rw[hlen],?_⟩⟩⟩;rw[e,<- jM];exact qA0 (qAU.1 hb).1
 obtain⟨Q,hQ,hi⟩:=key;simp;refine qFs hQ ?_;rintro r τ hr;obtain⟨b,ho⟩:=hi r τ hr;simp;exact⟨ho.frzNo (fun _=>rfl) (fun _=>rfl) (fun _=>rfl) 7,ho.frz (fun _=>rfl) (fun _=>rfl) (fun _=>rfl) 7⟩
def vl:∀l:List Int,qX (Yj l)=true
 |[]=>rfl
 | a::r=>by
  have:=vl r;simpa[Yj,qX,qw] using this
def qi3(l tok)(ht:∀t k,tok≠.chain t k):Pure prog GG 65 [.sl 1 (Yj l) tok] (.fn 115 [] [.rptr [.sl 1 (Yj l) tok]]):=by
 refine qFl o0 true qg func65 rfl (by kernel_rfl) ?_;simp;have hn:qO (.sl 1 (Yj l) tok)=true:=by
  have:=vl l;cases tok<;>simp_all[qO]
 have e:frz [Blk.cells [.sl 1 (Yj l) tok]] 8 (.fn 115 [] [.ptr 0 0])=.fn 115 [] [.rptr [.sl 1 (Yj l) tok]]:=by
  rw[frz];simp only[qO];simp[qkS,qF hn,qw]
 rw[e];have:=vl l;exact⟨by cases tok<;>simp_all[qO,qw],qFw _⟩
def fxE(e:Nat×Nat×Nat):AV×AV×Nat:=(.int .i64 (e.1:Int),.int .i64 (e.2.1:Int),e.2.2)
def fxO:List (Nat×Nat×Nat)->Nat->Option Nat
 |[],_=>none
 |e::r,i=>if e.1=i then some e.2.1 else fxO r i
def wP(f:Nat->Option Nat)(i x:Nat):Nat->Option Nat:=fun k=>if k=i then some x else f k
def qeC(i):∀(E) (k),(fxO E i=none/\jS (.int .i64 (i:Int)) (E.map fxE) k=some none/\∀y c,fxO (E++[(i,y,c)])=wP (fxO E) i y) \/
 ∃j x,fxO E i=some x/\jS (.int .i64 (i:Int)) (E.map fxE) k=some (some (k+j,.int .i64 (x:Int)))/\∀y:Nat,∃E':List (Nat×Nat×Nat),(E.map fxE).modify j (fun e=>(.int .i64 (i:Int),.int .i64 (y:Int),e.2.2))=E'.map fxE/\fxO E'=wP (fxO E) i y:=by
 intro E
 induction E with
 | nil=>
  intro k;refine .inl ⟨rfl,rfl,fun y c=>?_⟩;funext j;by_cases h:j=i
  . subst h;simp[fxO,wP]
  simp[fxO,wP,h];exact fun e=>h e.symm
 | cons e r ih=>
  intro k;by_cases he:e.1=i
  . refine .inr ⟨0,e.2.1,by simp[fxO,he],?_,fun y=>⟨(i,y,e.2.2)::r,by simp[fxE,List.modify],?_⟩⟩
    . simp[fxE,jS,Q4,he]
    . funext j;by_cases h:j=i
      . subst h;simp[fxO,wP]
      have h':¬i=j:=fun e=>h e.symm
      simp[*,fxO,wP]
  have hne:¬(i:Int)=(e.1:Int):=by omega
  have hfind:jS (.int .i64 (i:Int)) ((e::r).map fxE) k=jS (.int .i64 (i:Int)) (r.map fxE) (k+1):=by
   simp[fxE,jS,Q4,show((i:Int)==(e.1:Int))=false by simpa using hne]
  rcases ih (k+1) with⟨h1,h2,h3⟩|⟨j,x,h1,h2,h3⟩
  . refine .inl ⟨by simp[*,fxO],by rw[hfind,h2],fun y c=>?_⟩;funext a;have:=congrFun (h3 y c) a;simp only[wP]at this⊢;by_cases ha:e.1=a
    . have hai:¬a=i:=fun h=>he (ha.trans h)
      simp[*,fxO]
    simp[*,fxO]
  refine .inr ⟨j+1,x,by simp[*,fxO],by rw[hfind,h2,qC0,qCX 1 j],fun y=>?_⟩;obtain⟨E',e1,e2⟩:=h3 y;refine⟨e::E',by simp[List.modify,<- e1],?_⟩;funext a;have:=congrFun e2 a;simp only[wP]at this⊢;by_cases ha:e.1=a
  . have hai:¬a=i:=fun h=>he (ha.trans h)
    simp[*,fxO]
  simp[*,fxO]
def FxS(F:Nat)(fx:Nat->Option Nat)(H:List Blk):Prop:=∃E n,H[F]?=some (.map (E.map fxE) n)/\fxO E=fx
def FxS.ok{F fx H}(h:FxS F fx H):qiL (.map F) fx H:=by
 obtain⟨E,n,h1,rfl⟩:=h;refine .inr ⟨F,_,n,rfl,h1,fun i=>?_⟩;rcases qeC i E 0 with⟨h1,h2,_⟩|⟨j,x,h1,h2,_⟩
 . rwa[h1]
 rw[h1];exact⟨_,h2⟩
def FxS.set{F fx H}(h:FxS F fx H)(i y:Nat):∃B,(∀T,zj (Dof prog) ⟨H,T⟩ 109 (.map F) (.int .i64 (i:Int)) (.int .i64 (y:Int))=some ⟨H.set F B,T⟩)/\FxS F (wP fx i y) (H.set F B):=by
 obtain⟨E,n,h1,rfl⟩:=h;have hl:=(qAU.1 h1).1;rcases qeC i E 0 with⟨_,h2,h3⟩|⟨j,x,_,h2,h3⟩
 . refine⟨.map ((E++[(i,y,n)]).map fxE) (n+1),fun T=>by simp[zj,zI,h1,h2,fxE],E++[(i,y,n)],n+1,qA0 hl,h3 y n⟩
 obtain⟨E',e1,e2⟩:=h3 y;rw[qCC]at h2;exact⟨.map (E'.map fxE) n,fun T=>by simp[zj,zI,h1,h2,e1],E',n,qA0 hl,e2⟩
def FxS.keep{F fx H H' bs}(h:FxS F fx H)(hk:KpL bs H H')(hb:F∉bs):FxS F fx H':=by
 obtain⟨E,n,h1,h2⟩:=h;exact⟨E,n,hk.2 _ _ h1 hb,h2⟩
def FxS.ne{F N fx H B}(h:FxS F fx H)(hb:N≠F):FxS F fx (H.set N B):=by
 obtain⟨E,n,h1,h2⟩:=h;exact⟨E,n,by rw[qAX hb];exact h1,h2⟩
def qbM(f i x):wP f i x i=some x:=by simp[wP]
def qmI(f i x y):wP (wP f i x) i y=wP f i y:=by
 funext k;by_cases h:k=i<;>simp[wP,h]
def FxS.get{F fx H}(h:FxS F fx H){i x}(hx:fx i=some x)(T):zD (Dof prog) ⟨H,T⟩ 109 (.map F) (.int .i64 (i:Int)) false=some (.int .i64 (x:Int)):=by
 obtain⟨E,n,h1,rfl⟩:=h;rcases qeC i E 0 with⟨h2,_,_⟩|⟨j,x',h2,h3,_⟩
 . rw[hx]at h2;cases h2
 rw[hx]at h2;cases h2;simp[*,zD,zI]
def qig(l):(l.map qh).flatten=zb l:=by
 induction l with
 |nil=>rfl
 |cons a r ih=>rw[qA7,qBI,ih];rfl
def qly{r a H}(hr:AsR r a H)(ha:a≠[])(hl:a.length<=1000)(T):
 qj prog GG 63 [r] ⟨H,T⟩ (fun v U'=>v=.ms H.length 0 a.length 1/\U'=⟨H++[.cells (zb a)],T⟩):=by
 refine qFn ⟨true,[],[],[]⟩ qg func63 rfl (by kernel_rfl) ?_;rcases hr with⟨tok,rfl⟩|⟨N,rfl,hA⟩
 . cases a with
   |nil=>exact absurd rfl ha
   | cons x a=>
    have h2:a.length+1<=549755813888:=(by simp at hl;omega);have h3:=qig (x::a);simp at h3;simp[zx,ja,qV,Kc,h2];exact h3
 have h2:a.length<=549755813888:=by omega
 have h1:(zb a).take a.length=zb a:=qAZ (by rw[qR];exact qA5 _);simp[*,zx,ja,qV,Kc,qR]
def qn9{s x z}:z∈qgi s x↔z∈s\/z=x:=by
 have:∀(s:List Int),z∈qiH s x↔z∈s\/z=x:=by
  intro s
  induction s with
  |nil=>simp[qiH]
  | cons y r ih=>
   unfold qiH;split
   . simp only[qBt,ih];constructor
     . rintro(h|h|h)<;>simp[h]
     rintro((h|h)|h)<;>simp[h]
   simp;constructor
   . rintro(h|h|h)<;>simp[h]
   rintro((h|h)|h)<;>simp[h]
 rw[qgi,qEb,this,qEb]
def qcN{z}:∀(n) (l),l.length=n->(z∈wX l↔z∈l):=by
 intro n
 induction n with
 |zero=>intro l h;rw[qA6 h];rfl
 | succ n ih=>
  intro l h;have hne:l≠[]:=fun e=>by rw[e]at h;simp at h
  have e:=qB9 hne;rw[<- e,Jv,qn9,ih _ (by simp[h])];simp
def kU(g:List Nat):List Nat:=(wX (g.map fun n:Nat=>(n:Int))).map Int.toNat
def qfw(g):wX (g.map fun n:Nat=>(n:Int))=(kU g).map fun n:Nat=>(n:Int):=by
 unfold kU;rw[qCo]
 symm
 conv=>rhs;rw[<- qE0 (wX _)]
 refine qCa fun z hz=>?_
 rw[qcN _ _ rfl]at hz;obtain⟨n,_,rfl⟩:=qBj.1 hz;rfl
def qjo{g i}:i∈kU g↔i∈g:=by
 have:((i:Int)∈wX (g.map fun n:Nat=>(n:Int)))↔(i:Int)∈(g.map fun n:Nat=>(n:Int)):=qcN _ _ rfl;rw[qfw]at this;have key:∀l:List Nat,((i:Int)∈l.map fun n:Nat=>(n:Int))↔i∈l:=fun l=>by
  rw[qBj];exact⟨fun⟨n,hn,e⟩=>by
   have:n=i:=by omega
   exact this▸hn,fun h=>⟨i,h,rfl⟩⟩
 rwa[key,key]at this
def qjp(g):(kU g).length=g.length:=by
 unfold kU;rw[qBA,KZ _ _ rfl,qBA]
def wH(F:Nat->Nat):Nat->Nat->Int->Nat×Int
 |0,x,idx=>(x,idx)
 |n+1,x,idx=>if idx<F x then(x,idx) else if n=0 then(x,idx-F x) else wH F n (x+1) (idx-F x)
def wdN(p:Problem)(i:Nat):Nat:=match p.vars[i]? with|some v=>v.width.toNat|none=>0
noncomputable def chS(s:Spc)(d:List Nd)(a:List Int)(gi:Nat):List Nat->(Nat->Option Nat)->Int->List Int->List Int
 |[],_,_,out=>out
 | i::r,fx,idx,out=>
  let q:=wH (fun x=>qbY s d (wP fx i x) a gi) (2^wdN s.p i) 0 idx
  chS s d a gi r (wP fx i q.1) q.2 (out.set i q.1)
noncomputable def qbb(s:Spc)(d:List Nd)(gi:Nat)(a:List Int)(idx:Int):List Int:=chS s d a gi (kU ((NG s.p).getD gi [])) (fun _=>none) idx a
def ChQ(out:List Int)(H:List Blk)(v:AV)(U':St):Prop:=KpL [] H U'.H/\∃N,v=.ms N 0 out.length 1/\H.length<=N/\U'.H[N]?=some (.cells (zb out))
def qoT{s d}(h:SpV s d)(hl12:(NG s.p).flatten.length<=12){gi}(hgi:gi<(NG s.p).length){r a H}(hao:AOk s.p a)(hal:a.length=s.p.vars.length)(hs:SpOk s H)(ha:AsR r a H)(T)
 {idx} (hi0:0<=idx) (hi1:idx<2^62):
 qj prog GG 34 [.ptr s.S 0,.int .i64 gi,r,.int .i64 idx] ⟨H,T⟩ (ChQ (qbb s d gi a idx) H):=by
 refine qFo qg func34 rfl (by kernel_rfl) ?_;obtain⟨g,hg⟩:∃g,(NG s.p)[gi]?=some g:=⟨_,qAW hgi⟩;have hgm:=qAV hg;have hmf:∀i∈g,i∈(NG s.p).flatten:=fun i hi=>qBv.2 ⟨g,hgm,hi⟩
 have hg12:g.length<=12:=by
  have:∀(G:List (List Nat)),g∈G->g.length<=G.flatten.length:=by
   intro G
   induction G with
   |nil=>intro h;simp at h
   | cons x r ih=>
    intro h;rw[qBI,qAY];rcases qBt.1 h with rfl|h
    . omega
    have:=ih h;omega
  exact qBN (this _ hgm) hl12
 have hgne:g≠[]:=by
  obtain⟨g',hg',rfl⟩:=qBj.1 hgm;have:=(j5 h.vp).1 g' hg';simpa using this
 have hane:a≠[]:=by
  intro e;obtain⟨i,r',rfl⟩:=qDN hgne;obtain⟨n,hn,_⟩:=hao i (hmf i (by simp));rw[e]at hn;simp at hn
 have hvl:=h.vq.vars;have hcl:=qly ha hane (by omega) T;have hG:=WL h.vp;have hS:=hs.c;simp only[spE,qA,qBl,qBk,hG]at hS;have hgil:gi<s.p.groups.length:=by
  have:(NG s.p).length=s.p.groups.length:=by simp[NG]
  omega
 have hval:=qi3 (g.map fun n:Nat=>(n:Int)) .none (by simp);have hsrt:=qhr (g.map fun n:Nat=>(n:Int)) (by simpa using hg12) .none;have hrw:Yj (g.map fun n:Nat=>(n:Int))=g.map zJ:=by simp[Yj,zJ]
 have hnr:qX (g.map zJ)=true:=by rw[<- hrw];exact vl _
 rw[hrw]at hval hsrt;rw[qfw,qCo]at hsrt;rw[show((kU g).map (qh∘fun n:Nat=>(n:Int)))=(kU g).map zJ by simp[qh,zJ]]at hsrt;have hsl:(kU g).length<=12:=by rwa[qjp]
 have hNl:(NG s.p).length=s.p.groups.length:=by simp[NG]
 unfold qbb;rw[show(NG s.p).getD gi []=g by simp[qA8,hg]];simp;refine qFs hcl ?_;rintro v U ⟨rfl,rfl⟩;have hS1:=qf hS [.cells (zb a)];simp[hS,hg,yv,qf];refine qFp hval (by simp[hnr]) ?_;simp;refine qFp hsrt (by simp[hnr]) ?_;simp;refine qFF (kU g) (fun dn ev U=>ev 0=.ptr s.S 0/\ev 1=.int .i64 gi/\ev 2=r/\ev 9=.ms H.length 0 a.length 1/\ev 10=.map (H.length+1)/\ev 27=.sl 1 ((kU g).map zJ) .none/\ev 28=.int .i64 (kU g).length/\ev 29=.int .i64 dn.length /\
  ∃(rest:List Nat) (fx:Nat->Option Nat) (ix:Int) (out:List Int),kU g=dn++rest/\ev 3=.int .i64 ix/\chS s d a gi rest fx ix out=chS s d a gi (kU g) (fun _=>none) idx a/\KpL [] H U.H/\U.H[H.length]?=some (.cells (zb out))/\FxS (H.length+1) fx U.H/\out.length=a.length/\0<=ix/\ix<2^62/\∀i x,fx i=some x->x<65536) ?_ ?_ ?_
 . exact⟨by simp,by simp,by simp,by simp,by simp,by simp,by simp,by simp,kU g,fun _=>none,idx,a,rfl,by simp,rfl,qFX,by simp,⟨[],0,by simp,rfl⟩,rfl,hi0,hi1,by simp⟩
 . rintro dn i rest0 ev ⟨H1,T1⟩ R hR hd hx hlt ⟨e0,e1,e2,e9,e10,e27,e28,e29,rest,fx,ix,out,hre,e3,hch,hk,hN,hF,hol,hx0,hx1,hfx⟩;have hre':rest=i::rest0:=by
    have:=hre.symm.trans hd;simpa using this
   subst hre';obtain⟨v,l,hv,hw0,hw8,_,_,_⟩:=h.gr hmf i (qjo.1 (qAV hx));have hvi:=(qAU.1 hv).1;have hs1:=wG hw0 (by omega);have hp8:2^v.width.toNat<=2^8:=qBn (by omega) (by omega);have hp0:0<2^v.width.toNat:=qDS _;obtain⟨W,hW⟩:∃W,W=2^v.width.toNat:=⟨_,rfl⟩;have hch':chS s d a gi rest0 (wP fx i (wH (fun x=>qbY s d (wP fx i x) a gi) W 0 ix).1) (wH (fun x=>qbY s d (wP fx i x) a gi) W 0 ix).2 (out.set i (wH (fun x=>qbY s d (wP fx i x) a gi) W 0 ix).1)=chS s d a gi (kU g) (fun _=>none) idx a:=by
    rw[<- hch,hW,<- show wdN s.p i=v.width.toNat by unfold wdN;rw[hv]];rfl
   rw[<- hW]at hs1 hp8 hp0;generalize hSF:(fun x=>qbY s d (wP fx i x) a gi)=SF at *;have hwl:=wr (n:=(dn.length:Int)+1) (by omega) (by omega);have hS1:=hk.2 _ _ hS (by simp);simp[e0,e27,e28,e29,show(dn.length:Int)<(kU g).length by omega,hx,zJ,hS1,hv,show ¬v.width<0 by omega,IntKind.bits,hs1];refine qFu (fun n ev U=>ev 0=.ptr s.S 0/\ev 1=.int .i64 gi/\ev 2=r/\ev 9=.ms H.length 0 a.length 1/\ev 10=.map (H.length+1)/\ev 12=.int .i64 i/\ev 27=.sl 1 ((kU g).map zJ) .none/\ev 28=.int .i64 (kU g).length/\ev 29=.int .i64 dn.length/\ev 42=.int .i64 W /\
    ∃ (x:Nat) (fc:Nat->Option Nat) (ic:Int),n=W-x/\ev 3=.int .i64 ic/\ev 43=.int .i64 x/\KpL [] H U.H/\U.H[H.length]?=some (.cells (zb out))/\FxS (H.length+1) fc U.H/\0<=ic/\ic<2^62/\(∀i x,fc i=some x->x<65536) /\
     ((x<W/\wH SF W 0 ix=wH SF (W-x) x ic/\∀y,wP fc i y=wP fx i y)\/(x=W/\wH SF W 0 ix=(W-1,ic)/\fc=wP fx i (W-1)))) W ?_ ?_
   . exact⟨by simp[e0],by simp[e1],by simp[e2],by simp[e9],by simp[e10],by simp,by simp[e27],by simp[e28],by simp[e29],by simp,0,fx,ix,by simp,by simp[e3],by simp,hk,hN,hF,hx0,hx1,hfx,.inl ⟨hp0,rfl,fun _=>rfl⟩⟩
   rintro n ev ⟨H2,T2⟩ R2 hR2 ⟨e0,e1,e2,e9,e10,e12,e27,e28,e29,e42,x,fc,ic,rfl,e3,e43,hk,hN,hF,hc0,hc1,hfc,hcase⟩;have hial:(i:Int)<(a.length:Int):=(by omega);have hial1:i+1<=a.length:=(by omega);have tail:∀(x:Nat) (ic:Int) (H3:List Blk) (T3:List (Option Nat)) (ev':Env),ev' 0=.ptr s.S 0->ev' 1=.int .i64 gi->ev' 2=r->ev' 9=.ms H.length 0 a.length 1->ev' 10=.map (H.length+1)->ev' 27=.sl 1 ((kU g).map zJ) .none->ev' 28=.int .i64 (kU g).length->ev' 29=.int .i64 ((dn.length:Int)+1)->ev' 3=.int .i64 ic ->
    KpL [] H H3->H3[H.length]?=some (.cells (zb out))->FxS (H.length+1) (wP fx i x) H3->0<=ic->ic<2^62->x<65536->wH SF W 0 ix=(x,ic)->R ev' ⟨H3.set H.length (.cells (zb (out.set i x))),T3⟩:=by
    intro x ic H3 T3 ev' a0 a1 a2 a9 a10 a27 a28 a29 a3 bk bN bF b0 b1 bx hp;refine hR _ _ ⟨a0,a1,a2,a9,a10,a27,a28,by rw[a29];simp,rest0,wP fx i x,ic,out.set i x,by rw[hd];simp,a3,?_,bk.setF (qA5 _),qA0 (qAU.1 bN).1,bF.ne (by omega),by simp[hol],b0,b1,?_⟩
    . rw[<- hch',hp]
    intro k y hy;unfold wP at hy;split at hy
    . have:x=y:=by simpa using hy
      omega
    exact hfx k y hy
   rcases hcase with⟨hxW,hpk,hup⟩|⟨hxW,hpk,hup⟩
   . have hxW':(x:Int)<W:=(by omega);have hwx:=wr (n:=(x:Int)+1) (by omega) (by omega);obtain⟨B,hB,hF'⟩:=hF.set i x;have hF'':=hF';rw[hup]at hF'';have hkB:=hk.setF (b:=H.length+1) (y:=B) (by omega);have hNB:(H2.set (H.length+1) B)[H.length]?=some (.cells (zb out)):=(by rw[qAX (by omega)];exact hN);have hfu:∀k y,wP fx i x k=some y->y<65536:=fun k y hy=>by
      unfold wP at hy;split at hy
      . have:x=y:=by simpa using hy
        omega
      exact hfx k y hy
     have hsu:=qpu h hfu hgi hao (hs.keep hkB (by simp) (by simp) (by simp)) hF''.ok (ha.keep hkB (by simp)) T2;rw[<- show ∀x,SF x=qbY s d (wP fx i x) a gi from fun x=>by rw[<- hSF]]at hsu;have hpkx:wH SF (W-x) x ic=if ic<SF x then(x,ic) else if W-x-1=0 then(x,ic-SF x) else wH SF (W-x-1) (x+1) (ic-SF x):=by
      obtain⟨m,hm⟩:∃m,W-x=m+1:=⟨W-x-1,by omega⟩;rw[hm];rfl
     simp[e0,e1,e2,e10,e12,e42,e43,hxW',hB];refine qFs hsu ?_;rintro v ⟨H3,T3⟩ ⟨rfl,hk3⟩;have hF3:=hF''.keep hk3 (by simp);have hN3:=hk3.2 _ _ hNB (by simp);have hkk:=hkB.trans hk3;have hget:=hF3.get (qbM fx i x) T3;by_cases hlt2:ic<SF x
     . rw[if_pos hlt2]at hpkx;simp[e3,e9,e10,e12,e29,hlt2,hget,hial,hial1,hN3,qR,hol,yL,hwl];exact tail x ic H3 T3 _ (by simp[e0]) (by simp[e1]) (by simp[e2]) (by simp[e9]) (by simp[e10]) (by simp[e27]) (by simp[e28]) (by simp) (by simp[e3]) hkk hN3 hF3 hc0 hc1 (by omega) (by rw[hpk,hpkx])
     rw[if_neg hlt2]at hpkx;have hws:=wr (n:=ic-(SF x:Int)) (by omega) (by omega);simp[*];refine hR2 (W-(x+1)) _ _ (by omega) ⟨by simp[e0],by simp[e1],by simp[e2],by simp[e9],by simp[e10],by simp[e12],by simp[e27],by simp[e28],by simp[e29],by simp[e42],x+1,wP fx i x,ic-SF x,rfl,by simp,by simp,hkk,hN3,hF3,by omega,by omega,hfu,?_⟩;by_cases hlast:W-x-1=0
     . rw[if_pos hlast]at hpkx;refine .inr ⟨by omega,?_,?_⟩
       . rw[hpk,hpkx];congr 1;omega
       congr 1;omega
     rw[if_neg hlast]at hpkx;exact .inl ⟨by omega,by rw[hpk,hpkx];rfl,fun y=>qmI _ _ _ _⟩
   have hxW':¬(x:Int)<W:=(by omega);subst hup;have hget:=hF.get (qbM fx i (W-1)) T2;simp[e9,e10,e12,e29,e42,e43,hxW,hget,hial,hial1,hN,qR,hol,yL,hwl];exact tail (W-1) ic H2 T2 _ (by simp[e0]) (by simp[e1]) (by simp[e2]) (by simp[e9]) (by simp[e10]) (by simp[e27]) (by simp[e28]) (by simp) (by simp[e3]) hk hN hF hc0 hc1 (by omega) hpk
 rintro ev ⟨H1,T1⟩ ⟨e0,e1,e2,e9,e10,e27,e28,e29,rest,fx,ix,out,hre,e3,hch,hk,hN,hF,hol,hx0,hx1,hfx⟩;have hre':rest=[]:=by simpa using hre
 subst hre';rw[<- hch];simp[e9,e28,e29];exact⟨hk,H.length,by simp[chS,hol],qA5 _,hN⟩
abbrev Rng:=Int×Int
def qAm(r:Rng):List AV:=[.int .u64 r.1,.int .u64 r.2]
section
variable {H:Type}{enc:TypeId×Value->H}{w:World}{base:Nat}{held:Bool}
def YA{fs:Array Field}{t n:Nat}{cs:List Value}{x:DataW H×List MemPlace}(ht:prog.underlying t=some (.struct fs))(h:DataW.trod enc prog w base (fun _=>true) held n t cs=some x):
 ∃m,n=m+1/\cs.length=prog.cellsOf t/\∀(i:Nat) (f:Field),fs[i]?=some f->∃y,DataW.trod enc prog w base (fun _=>true) held m f.type ((cs.drop f.offset).take (prog.cellsOf f.type))=some y:=by
 obtain⟨xs,m,rfl,rfl,hl,hlen,hf⟩:=DataW.trod_struct ht h;refine⟨m,rfl,hl,fun i f hi=>?_⟩;have hlt:i<fs.size:=(qBR.1 hi).1;exact⟨xs[i]'(by omega),by rw[hf i f hi,qAW]⟩
def qjN{fs:Array Field}{t n:Nat}{cs:List Value}{x:DataW H×List MemPlace}(ht:prog.underlying t=some (.struct fs))(h:DataW.trod enc prog w base (fun _=>true) held n t cs=some x):
 ∃ m,n=m+1/\cs.length=prog.cellsOf t/\(∀(i:Nat) (f:Field),fs[i]?=some f->∃y,DataW.trod enc prog w base (fun _=>true) held m f.type ((cs.drop f.offset).take (prog.cellsOf f.type))=some y) /\
  ∀(i:Nat) (f:Field),fs[i]?=some f->∀y,DataW.trod enc prog w base (fun _=>true) held m f.type ((cs.drop f.offset).take (prog.cellsOf f.type))=some y->∃xs:List (DataW H×List MemPlace),x.1=.agg (xs.map (·.1))/\xs.length=fs.size/\xs[i]?=some y:=by
 obtain⟨xs,m,rfl,rfl,hl,hlen,hf⟩:=DataW.trod_struct ht h;refine⟨m,rfl,hl,fun i f hi=>?_,fun i f hi y hy=>⟨xs,rfl,hlen,?_⟩⟩
 . have hlt:i<fs.size:=(qBR.1 hi).1;exact⟨xs[i]'(by omega),by rw[hf i f hi,qAW]⟩
 rw[<- hf i f hi,hy]
def k3:prog.cellsOf 3=1:=by kernel_rfl
def k4:prog.cellsOf 4=1:=by kernel_rfl
def k9:prog.cellsOf 9=1:=by kernel_rfl
def k37:prog.cellsOf 28=1:=by kernel_rfl
def k22:prog.cellsOf 22=1:=by kernel_rfl
def k23:prog.cellsOf 23=1:=by kernel_rfl
def k24:prog.cellsOf 24=1:=by kernel_rfl
def k25:prog.cellsOf 25=1:=by kernel_rfl
def k27:prog.cellsOf 27=5:=by kernel_rfl
def k57:prog.cellsOf 63=4:=by kernel_rfl
def k50:prog.cellsOf 47=4:=by kernel_rfl
def k75:prog.cellsOf 64=1:=by kernel_rfl
def k77:prog.cellsOf 66=2:=by kernel_rfl
def qzG:prog.cellsOf 150=4:=by kernel_rfl
def qd4{s:ByteArray}:qk (KMw w) (.str s.data.toList) (.string s):=by
 obtain⟨d⟩:=s;unfold qk;show Value.string ⟨d⟩=Value.string ⟨d.toList.toArray⟩;rw[qC9]
def ZL{n:Nat}{c:Value}{y:DataW H×List MemPlace}(h:DataW.trod enc prog w base (fun _=>true) held n 3 [c]=some y):∃i:Int,c=.int .i64 i:=by
 obtain⟨i,e,_⟩:=DataW.trod_int underlying3 h;exact⟨i,(List.cons.inj e).1⟩
def qrs{n:Nat}{c:Value}{y:DataW H×List MemPlace}(h:DataW.trod enc prog w base (fun _=>true) held n 4 [c]=some y):∃i:Bool,c=.bool i:=by
 obtain⟨i,e,_⟩:=DataW.trod_bool underlying4 h;exact⟨i,(List.cons.inj e).1⟩
def qpB{n:Nat}{c:Value}{y:DataW H×List MemPlace}(h:DataW.trod enc prog w base (fun _=>true) held n 9 [c]=some y):∃s:ByteArray,c=.string s/\Fits s.data.toList:=by
 obtain⟨s,e,_,hs⟩:=DataW.trod_string underlying9 h;refine⟨s,(List.cons.inj e).1,?_⟩;have:s.data.toList.length=s.size:=qCs;rw[Fits,this];simp only[maxLen]at hs;omega
def qx5{n:Nat}{cs:List Value}{x:DataW H×List MemPlace}(h:DataW.trod enc prog w base (fun _=>true) held n 47 cs=some x):∃v:Var,ql (KMw w) (qM v) cs/\Fits v.name:=by
 obtain⟨m,rfl,hl,hf⟩:=YA underlying47 h;rw[k50]at hl
 match cs,hl with
 | [a,b,c,d],_=>
  obtain⟨y0,h0⟩:=hf 0 _ rfl;obtain⟨y1,h1⟩:=hf 1 _ rfl;obtain⟨y2,h2⟩:=hf 2 _ rfl;obtain⟨y3,h3⟩:=hf 3 _ rfl;have h0:DataW.trod enc prog w base (fun _=>true) held m 9 (List.take (prog.cellsOf 9) (List.drop 0 [a,b,c,d]))=some y0:=h0;rw[k9]at h0;have h1:DataW.trod enc prog w base (fun _=>true) held m 3 (List.take (prog.cellsOf 3) (List.drop 1 [a,b,c,d]))=some y1:=h1;rw[k3]at h1;have h2:DataW.trod enc prog w base (fun _=>true) held m 3 (List.take (prog.cellsOf 3) (List.drop 2 [a,b,c,d]))=some y2:=h2;rw[k3]at h2;have h3:DataW.trod enc prog w base (fun _=>true) held m 3 (List.take (prog.cellsOf 3) (List.drop 3 [a,b,c,d]))=some y3:=h3;rw[k3]at h3;obtain⟨s,rfl,hs⟩:=qpB (c:=a) h0;obtain⟨i1,rfl⟩:=ZL (c:=b) h1;obtain⟨i2,rfl⟩:=ZL (c:=c) h2;obtain⟨i3,rfl⟩:=ZL (c:=d) h3;refine⟨⟨s.data.toList,i1,i2,i3⟩,?_,hs⟩;simp only[qM,ql];exact⟨_,_,rfl,qd4,_,_,rfl,by simp[qk],_,_,rfl,by simp[qk],_,_,rfl,by simp[qk],rfl⟩
def qm9{n:Nat}{cs:List Value}{x:DataW H×List MemPlace}(h:DataW.trod enc prog w base (fun _=>true) held n 150 cs=some x):∃v:Weight,ql (KMw w) (qz v) cs/\True:=by
 obtain⟨m,rfl,hl,hf⟩:=YA underlying150 h;rw[qzG]at hl
 match cs,hl with
 | [a,b,c,d],_=>
  obtain⟨y0,h0⟩:=hf 0 _ rfl;obtain⟨y1,h1⟩:=hf 1 _ rfl;obtain⟨y2,h2⟩:=hf 2 _ rfl;obtain⟨y3,h3⟩:=hf 3 _ rfl;have h0:DataW.trod enc prog w base (fun _=>true) held m 3 (List.take (prog.cellsOf 3) (List.drop 0 [a,b,c,d]))=some y0:=h0;rw[k3]at h0;have h1:DataW.trod enc prog w base (fun _=>true) held m 3 (List.take (prog.cellsOf 3) (List.drop 1 [a,b,c,d]))=some y1:=h1;rw[k3]at h1;have h2:DataW.trod enc prog w base (fun _=>true) held m 3 (List.take (prog.cellsOf 3) (List.drop 2 [a,b,c,d]))=some y2:=h2;rw[k3]at h2;have h3:DataW.trod enc prog w base (fun _=>true) held m 4 (List.take (prog.cellsOf 4) (List.drop 3 [a,b,c,d]))=some y3:=h3;rw[k4]at h3;obtain⟨i0,rfl⟩:=ZL (c:=a) h0;obtain⟨i1,rfl⟩:=ZL (c:=b) h1;obtain⟨i2,rfl⟩:=ZL (c:=c) h2;obtain⟨i3,rfl⟩:=qrs (c:=d) h3;refine⟨⟨i0,i1,i2,i3⟩,?_,trivial⟩;simp[ql,qk]
def quE{n:Nat}{cs:List Value}{x:DataW H×List MemPlace}(h:DataW.trod enc prog w base (fun _=>true) held n 66 cs=some x):∃v:Dist,ql (KMw w) (zs v) cs/\Fits v.weights:=by
 obtain⟨m,rfl,hl,hf⟩:=YA underlying66 h;rw[k77]at hl
 match cs,hl with
 | [a,b],_=>
  obtain⟨y0,h0⟩:=hf 0 _ rfl;obtain⟨y1,h1⟩:=hf 1 _ rfl;have h0:DataW.trod enc prog w base (fun _=>true) held m 3 (List.take (prog.cellsOf 3) (List.drop 0 [a,b]))=some y0:=h0;rw[k3]at h0;have h1:DataW.trod enc prog w base (fun _=>true) held m 64 (List.take (prog.cellsOf 64) (List.drop 1 [a,b]))=some y1:=h1;rw[k75]at h1;obtain⟨i0,rfl⟩:=ZL (c:=a) h0;have h1':DataW.trod enc prog w base (fun _=>true) held m 64 [b]=some y1:=h1
  cases m with
  |zero=>simp[DataW.trod]at h1'
  | succ m=>
   obtain⟨l,v,e,hv,hfl,_⟩:=vm (en:=qz) (good:=fun _=>True) underlying64 qzG (by omega) (fun y=>by simp[AV.atom]) (fun cs x h=>qm9 h) h1';cases e;refine⟨⟨i0,l⟩,?_,hfl⟩;simp only[zs,ql,qk];exact⟨_,_,rfl,rfl,_,[],rfl,by simpa only[qk] using hv,rfl⟩
def quD{n:Nat}{cs:List Value}{x:DataW H×List MemPlace}(h:DataW.trod enc prog w base (fun _=>true) held n 28 cs=some x):∃l:List Int,ql (KMw w) (qD l) cs/\Fits l:=by
 cases n with
 |zero=>simp[DataW.trod]at h
 | succ m=>
  obtain⟨l,v,rfl,hv,hfl,_⟩:=vm (en:=qh) (good:=fun _=>True) underlying28 k3 (by omega) (fun y=>by simp[AV.atom]) (fun cs x h=>by
   obtain⟨i,e,_⟩:=DataW.trod_int underlying3 h;exact⟨i,by rw[e];simp[ql,qk],trivial⟩) h
  refine⟨l,?_,hfl⟩;simp only[qD,ql];exact⟨v,[],rfl,hv,rfl⟩
def rdE:∀(N n:Nat),n<=N->∀{cs:List Value}{x:DataW H×List MemPlace},DataW.trod enc prog w base (fun _=>true) held n 63 cs=some x->∃e:Ex,ql (KMw w) (qt e) cs/\Wen e:=by
 intro N
 induction N with
 | zero=>
  intro n hn cs x h;have:n=0:=by omega
  subst this;simp[DataW.trod]at h
 | succ N ih=>
  intro n hn cs x h;obtain⟨m,rfl,hl,hf⟩:=YA underlying63 h;rw[k57]at hl
  match cs,hl with
  | [a,b,c,d],_=>
   obtain⟨y0,h0⟩:=hf 0 _ rfl;obtain⟨y1,h1⟩:=hf 1 _ rfl;obtain⟨y2,h2⟩:=hf 2 _ rfl;obtain⟨y3,h3⟩:=hf 3 _ rfl;have h0:DataW.trod enc prog w base (fun _=>true) held m 3 (List.take (prog.cellsOf 3) (List.drop 0 [a,b,c,d]))=some y0:=h0;rw[k3]at h0;have h1:DataW.trod enc prog w base (fun _=>true) held m 3 (List.take (prog.cellsOf 3) (List.drop 1 [a,b,c,d]))=some y1:=h1;rw[k3]at h1;have h2:DataW.trod enc prog w base (fun _=>true) held m 9 (List.take (prog.cellsOf 9) (List.drop 2 [a,b,c,d]))=some y2:=h2;rw[k9]at h2;have h3:DataW.trod enc prog w base (fun _=>true) held m 23 (List.take (prog.cellsOf 23) (List.drop 3 [a,b,c,d]))=some y3:=h3;rw[k23]at h3;obtain⟨i0,rfl⟩:=ZL (c:=a) h0;obtain⟨i1,rfl⟩:=ZL (c:=b) h1;obtain⟨s,rfl,hs⟩:=qpB (c:=c) h2;have h3':DataW.trod enc prog w base (fun _=>true) held m 23 [d]=some y3:=h3
   cases m with
   |zero=>simp[DataW.trod]at h3'
   | succ m=>
    obtain⟨l,v,e,hv,hfl,hg⟩:=vm (en:=qt) (good:=Wen) underlying23 k57 (by omega) (fun y=>by rw[qc];simp[AV.atom]) (fun cs x h=>ih m (by omega) h) h3';cases e;refine⟨.mk i0 i1 s.data.toList l,?_,?_⟩
    . rw[qc];simp only[ql,qFi,Ex.n_mk,qFj,qFk];exact⟨_,_,rfl,by simp[qk],_,_,rfl,by simp[qk],_,_,rfl,qd4,_,[],rfl,hv,rfl⟩
    intro y hy;rw[jC]at hy;rcases qBt.1 hy with rfl|hy
    . exact⟨hfl,hs⟩
    obtain⟨a,ha,hya⟩:=ZU.1 hy;exact hg a ha y hya
def b3:prog.bytesOf 3=8:=by kernel_rfl
def qt5{P:Program}{e:TypeId}:∀{E:List (DataW H)}{d:DataW H},d∈E->∀k∈d.weights P e,k∈DataW.weightsAll P e E
 |[],_,h,_,_=>nomatch h
 | a::r,d,h,k,hk=>by
  simp only[DataW.weightsAll,qBb];rcases qBt.1 h with rfl|h
  . exact .inl hk
  exact .inr (qt5 h k hk)
def qna{n:Nat}{cs:List Value}{x:DataW H×List MemPlace}(h:DataW.trod enc prog w base (fun _=>true) held (n+1) 25 cs=some x)(hw:∀k∈x.1.weights prog 25,k<=reachBytes):
 ∃(l:List (List Int)) (v:Value),cs=[v]/\qk (KMw w) (.sl 1 (l.map qD) .none) v/\Fits l/\∀y∈l,Fits y/\y.length<17592186044416:=by
 obtain⟨l,v,h1,h2,h3,h4,_⟩:=Kt (en:=qD) (good:=fun g=>Fits g/\g.length<17592186044416) (X:=fun d=>∀k∈d.weights prog 28,k<=reachBytes) underlying25 k37 (by omega) (fun y=>by simp[AV.atom]) (fun cs x h hx=>by
  cases n with
  |zero=>simp[DataW.trod]at h
  | succ m=>
   obtain⟨l,v,rfl,hv,hfl,_,hN⟩:=Kt (en:=qh) (good:=fun _=>True) (X:=fun _=>True) underlying28 k3 (by omega) (fun y=>by simp[AV.atom]) (fun cs x h _=>by
    obtain⟨i,e,_⟩:=DataW.trod_int underlying3 h;exact⟨i,by rw[e];simp[ql,qk],trivial⟩) h (fun _ _ _ _ _=>trivial)
   refine⟨l,?_,hfl,?_⟩
   . simp only[qD,ql];exact⟨v,[],rfl,hv,rfl⟩
   have:=hN 17592186044415 fun E S e=>by
    have:=hx ((E.length+S.length)*prog.bytesOf 3) (by rw[e];simp only[DataW.weights,underlying28];exact qCJ);rw[b3]at this;simp only[reachBytes]at this;omega
   omega) h (fun E S e d hd k hk=>hw k (by
    rw[e];simp only[DataW.weights,underlying25];exact qCg _ (qBJ _ (qt5 hd k hk))))
 exact⟨l,v,h1,h2,h3,h4⟩
def rdP{n:Nat}{cs:List Value}{x:DataW H×List MemPlace}(h:DataW.trod enc prog w base (fun _=>true) held n 27 cs=some x)(hw:∀k∈x.1.weights prog 27,k<=reachBytes):∃p:Problem,ql (KMw w) (qA p) cs/\VM p:=by
 have hx:∀y4,(∃xs:List (DataW H×List MemPlace),x.1=.agg (xs.map (·.1))/\xs.length=5/\xs[4]?=some y4)->∀k∈y4.1.weights prog 25,k<=reachBytes:=by
  rintro y4 ⟨xs,e,hl,h4⟩ k hk;refine hw k ?_;rw[e]
  match xs,hl with
  | [a,b,c,d,e],_=>
   simp at h4;subst h4;simp only[DataW.weights,underlying27,qA7,qBy,DataW.weightsEach,qBb];exact .inr (.inr (.inr (.inr (.inl hk))))
 obtain⟨m,rfl,hl,hf,hy⟩:=qjN underlying27 h;rw[k27]at hl
 match cs,hl with
 | [a,b,c,d,e],_=>
  obtain⟨y0,h0⟩:=hf 0 _ rfl;obtain⟨y1,h1⟩:=hf 1 _ rfl;obtain⟨y2,h2⟩:=hf 2 _ rfl;obtain⟨y3,h3⟩:=hf 3 _ rfl;obtain⟨y4,h4⟩:=hf 4 _ rfl;have h4w:=hx y4 (hy 4 _ rfl y4 h4);have h0:DataW.trod enc prog w base (fun _=>true) held m 22 (List.take (prog.cellsOf 22) (List.drop 0 [a,b,c,d,e]))=some y0:=h0;rw[k22]at h0;have h1:DataW.trod enc prog w base (fun _=>true) held m 23 (List.take (prog.cellsOf 23) (List.drop 1 [a,b,c,d,e]))=some y1:=h1;rw[k23]at h1;have h2:DataW.trod enc prog w base (fun _=>true) held m 23 (List.take (prog.cellsOf 23) (List.drop 2 [a,b,c,d,e]))=some y2:=h2;rw[k23]at h2;have h3:DataW.trod enc prog w base (fun _=>true) held m 24 (List.take (prog.cellsOf 24) (List.drop 3 [a,b,c,d,e]))=some y3:=h3;rw[k24]at h3;have h4:DataW.trod enc prog w base (fun _=>true) held m 25 (List.take (prog.cellsOf 25) (List.drop 4 [a,b,c,d,e]))=some y4:=h4;rw[k25]at h4;have h0':DataW.trod enc prog w base (fun _=>true) held m 22 [a]=some y0:=h0;have h1':DataW.trod enc prog w base (fun _=>true) held m 23 [b]=some y1:=h1;have h2':DataW.trod enc prog w base (fun _=>true) held m 23 [c]=some y2:=h2;have h3':DataW.trod enc prog w base (fun _=>true) held m 24 [d]=some y3:=h3;have h4':DataW.trod enc prog w base (fun _=>true) held m 25 [e]=some y4:=h4
  cases m with
  |zero=>simp[DataW.trod]at h0'
  | succ m=>
   obtain⟨l0,v0,e0,r0,f0,g0⟩:=vm (en:=qM) (good:=fun v=>Fits v.name) underlying22 k50 (by omega) (fun y=>by simp[AV.atom]) (fun cs x h=>qx5 h) h0';obtain⟨l1,v1,e1,r1,f1,g1⟩:=vm (en:=qt) (good:=Wen) underlying23 k57 (by omega) (fun y=>by rw[qc];simp[AV.atom]) (fun cs x h=>rdE m m (qA5 _) h) h1';obtain⟨l2,v2,e2,r2,f2,g2⟩:=vm (en:=qt) (good:=Wen) underlying23 k57 (by omega) (fun y=>by rw[qc];simp[AV.atom]) (fun cs x h=>rdE m m (qA5 _) h) h2';obtain⟨l3,v3,e3,r3,f3,g3⟩:=vm (en:=zs) (good:=fun d=>Fits d.weights) underlying24 k77 (by omega) (fun y=>by simp[AV.atom]) (fun cs x h=>quE h) h3';obtain⟨l4,v4,e4,r4,f4,g4⟩:=qna h4' h4w;cases e0;cases e1;cases e2;cases e3;cases e4;refine⟨⟨l0,l1,l2,l3,l4⟩,?_,⟨⟨g0,fun e he=>?_,f3,g3,f4,fun g hg=>(g4 g hg).1⟩,f0,f1,f2,fun g hg=>(g4 g hg).2⟩⟩
   . simp only[qA,ql];exact⟨_,_,rfl,r0,_,_,rfl,r1,_,_,rfl,r2,_,_,rfl,r3,_,_,rfl,r4,rfl⟩
   rcases qBb.1 he with he|he
   . exact g1 e he
   exact g2 e he
end
def qrF:ownKnob prog.godebug=none:=by kernel_rfl
def KU:laidOutB prog=true:=by kernel_rfl
def qyO:prog.globalNamed "testbench/lexer.keywords" = some 0:=by kernel_rfl
def qxZ:(prog.globals[0]?).map (·.type)=some 218:=by kernel_rfl
/-- A list of texts that reads as a known one. -/
def qrr{H:Type}{enc:TypeId×Value->H}{w:World}{base:Nat}{held:Bool}{n:Nat}{cs:List Value}{p:List MemPlace}{K:List Str}
 (h:DataW.trod enc prog w base (fun _=>true) held n 218 cs=some (.slice (K.map fun k=>.lit (.string k)) [],p)) (hK:K≠[]):
 ∃v,cs=[v]/\qk (KMw w) (.sl 1 (K.map jm) .none) v:=by
 have hs:∀(m:Nat) (cs:List Value) (x:DataW H×List MemPlace),DataW.trod enc prog w base (fun _=>true) held m 9 cs=some x->∃k:Str,ql (KMw w) (jm k) cs/\x.1=.lit (.string k):=by
  intro m cs x h;obtain⟨s,rfl,rfl,_⟩:=DataW.trod_string underlying9 h;refine⟨s.data.toList,?_,rfl⟩;simp only[jm,ql];exact⟨_,[],rfl,qd4,rfl⟩
 rcases DataW.trod_slice underlying218 h with⟨_,e⟩|⟨a,len,cap,elems,rest,m,hm,rfl,e,hb,hl,hc,hlen,hel',hsp,_⟩
 . simp at e
 simp only[qBh,DataW.slice.injEq]at e;obtain⟨⟨e1,e2⟩,_⟩:=e;have hlK:len=K.length:=by rw[<- hlen];have:=congrArg List.length e1;simpa using this.symm
 have hK0:0<K.length:=qBf.2 hK;rw[k9]at hel';have one:∀i (hi:i<K.length),∃cs',w.cells? base (a.add (i*1)) 1=some cs'/\ql (KMw w) (jm K[i]) cs':=by
  intro i hi;have hh:=hel' i (by omega);rw[qAW (by omega)]at hh;obtain⟨cs',h1,h2⟩:=qCw.1 hh;obtain⟨k,h3,h4⟩:=hs m cs' _ h2;refine⟨cs',h1,?_⟩;have e3:(elems.map (·.1))[i]?=(K.map fun k=>(DataW.lit (.string k):DataW H))[i]?:=by rw[e1]
  rw[qBp,qBp,qAW (by omega),qAW hi]at e3;simp only[qDQ,qBg]at e3;rw[h4]at e3;have e4:k=K[i]:=by simpa using e3
  rw[<- e4];exact h3
 have spot:a.spot=none:=by
  obtain⟨cs',h1,_⟩:=one 0 hK0;rw[qCK]at h1;obtain⟨_,hlen',hc'⟩:=World.cells?_some h1;have:=hc' 0 (by omega);rw[qAW (by omega)]at this
  cases hs:a.spot with
  |none=>rfl
  | some s=>
   simp only[Addr.add,if_true]at this;unfold World.cell? at this;rw[hs]at this;split at this<;>simp at this
 obtain⟨b,o,s⟩:=a;simp only at spot;subst spot;refine⟨_,rfl,?_⟩;simp only[qk];refine .inr ⟨b,o,cap,by simp[hlK],by simp;omega,qFT b 1 _ o fun i r e=>?_,trivial⟩;rw[qBp,qA2]at e;obtain⟨k,hk,rfl⟩:=e;obtain⟨hi,hk'⟩:=qAU.1 hk;obtain⟨cs',h1,h2⟩:=one i hi;rw[hk']at h2;obtain⟨_,hlen',hc'⟩:=World.cells?_some h1;obtain⟨g1,g2⟩:=ql.get h2;refine⟨rfl,rfl,qFS b _ _ fun j z hz=>?_⟩;have hj:j=0:=by
  have:=(qAU.1 hz).1;simp at this;exact this
 subst hj;obtain⟨v,hv1,hv2⟩:=g2 0 z hz;refine⟨v,?_,hv2⟩;have:=hc' 0 (by omega);rw[hv1]at this;show w.cell? ⟨b,o+i*1+0,none⟩=some v;rw[<- this];congr 1;simp only[Addr.add,if_true];by_cases hi0:i*1=0
 . rw[if_pos hi0,hi0];simp
 rw[if_neg hi0];simp
abbrev qh4:List (String×DataW Unit):=Rows.randomProbsRow.laid
/-- What the condition gives: the keywords. -/
def qrR{W:World}(h:laidMetH prog qh4 W):qk (KMw W) (.rptr [.sl 1 (qdI.map jm) .none]) (.pointer (some ⟨0,0,none⟩)):=by
 rw[MakeChecks.laidMetH_plain _ _ _ (by kernel_rfl)]at h;obtain⟨ps,⟨g0,t0,cs0,f0,p0,q0,_,_,_,_,⟨g1,t1,cs1,f1,p1,q1,_,_,_,_,⟨g2,t2,cs2,f2,p2,q2,_,_,_,_,⟨g3,t3,cs3,f3,p3,q3,hg,ht,hv,hd,_,_⟩,_⟩,_⟩,_⟩,_,_⟩:=h;obtain rfl:=Option.some.inj (qyO.symm.trans hg);obtain rfl:=Option.some.inj (qxZ.symm.trans ht);obtain⟨v,e,hr⟩:=qrr (K:=qdI) hd (by decide);have hcell:W.cell? ⟨0,0,none⟩=some v:=by
  have:=World.var?_cell hg hv 0;rw[Array.eq_one_of_toList e]at this;simpa using this
 have hgoal:qk (KMw W) (.rptr [.sl 1 (qdI.map jm) .none]) (.pointer (some ⟨0,0,none⟩)):=by
  unfold qk;refine⟨0,0,rfl,?_⟩;unfold qr;exact⟨⟨v,hcell,hr⟩,by unfold qr;trivial⟩
 exact hgoal
def qoD(os:Os)(args:Array Value):laidMetH prog qh4 ((World.doorLaid prog 400 os).forCall (fun _ _=>0) ⟨#[],args,[]⟩).memory :=
 laidMetH_of_parts3 (fuel:=8) (laidMet_of_run' 8 (by kernel_rfl) (by kernel_rfl)) (by kernel_rfl) (by kernel_rfl)
def qkQ{W:World}(hL:laidMetH prog qh4 W):∀g,qk (KMw W) (GG g) (.pointer (some ⟨g,0,none⟩)):=by
 intro g
 cases g with
 |zero=>exact qrR hL
 |succ g=>simp only[GG,qk]
end Go.Proofs.YtimecmegnocamaaGreatDoor
namespace Go.Abs
def dgs(n:Nat):List Int:=if h:n=0 then [] else((n%10000:Nat):Int)::dgs (n/10000)
termination_by n
decreasing_by omega
def jW:dgs 0=[]:=by rw[dgs];rfl
def Zp{n}(h:n≠0):dgs n=((n%10000:Nat):Int)::dgs (n/10000):=by rw[dgs,dif_neg h]
def qa7{n}:dgs n=[]↔n=0:=by
 constructor
 . intro h;by_cases h0:n=0
   . exact h0
   rw[Zp h0]at h;cases h
 rintro rfl;exact jW
def dOk(l:List Int):Prop:=∀d∈l,0<=d/\d<10000
def valQ:List Int->Nat
 |[]=>0
 |d::r=>d.toNat+10000*valQ r
def kw(n):dOk (dgs n):=by
 induction n using Nat.strongRecOn with
 | _ n ih=>
  by_cases h:n=0
  . subst h;rw[jW];intro d hd;cases hd
  rw[Zp h];intro d hd;rcases qBt.1 hd with rfl|hd
  . omega
  exact ih _ (by omega) d hd
def js(n):valQ (dgs n)=n:=by
 induction n using Nat.strongRecOn with
 | _ n ih=>
  by_cases h:n=0
  . subst h;rw[jW];rfl
  rw[Zp h,valQ,ih _ (by omega)];omega
def yQ:List Int->List Int
 |[]=>[]
 |d::r=>if d=0/\yQ r=[] then [] else d::yQ r
def QF:∀{l:List Int},dOk l->yQ l=dgs (valQ l)
 |[],_=>jW.symm
 | d::r,h=>by
  have ih:=QF (l:=r) fun x hx=>h x (qCg _ hx)
  have hd:=h d (qCJ ..);unfold yQ valQ;rw[ih];by_cases h0:d=0/\dgs (valQ r)=[]
  . rw[if_pos h0,h0.1,qa7.1 h0.2];exact jW.symm
  rw[if_neg h0];have hne:d.toNat+10000*valQ r≠0:=fun e=>h0 ⟨by omega,qa7.2 (by omega)⟩
  rw[Zp hne,show(d.toNat+10000*valQ r)/10000=valQ r by omega];congr 1;omega
def qbP(s):yQ (s++[0])=yQ s:=by
 induction s with
 |nil=>simp[yQ]
 |cons d r ih=>rw[qBl,yQ,yQ,ih]
def qbQ(s){x:Int}(hx:x≠0):yQ (s++[x])=s++[x]:=by
 induction s with
 |nil=>simp[yQ,hx]
 |cons d r ih=>rw[qBl,yQ,ih,if_neg (by simp)]
def qaj(a b):valQ (a++b)=valQ a+10000^a.length*valQ b:=by
 induction a with
 |nil=>simp[valQ]
 | cons d r ih=>
  rw[qBl,valQ,valQ,ih,qBc,qCi,qCY];have:10000^r.length*10000*valQ b=10000*(10000^r.length*valQ b):=by rw[qCZ (10000^r.length),qCb]
  omega
def qsX{a b}:dOk (a++b)↔dOk a/\dOk b:=by
 unfold dOk;simp only[qBb];exact⟨fun h=>⟨fun d hd=>h d (.inl hd),fun d hd=>h d (.inr hd)⟩,fun h d hd=>hd.elim (h.1 d) (h.2 d)⟩
def Y7{l:List Int}(h:dOk l):valQ l<10000^l.length:=by
 induction l with
 |nil=>simp[valQ]
 | cons d r ih=>
  have hd:=h d (qCJ ..);have:=ih fun x hx=>h x (qCg _ hx)
  rw[valQ,qBc,qCi];omega
def ko{n k:Nat}(h:n<10000^k):(dgs n).length<=k:=by
 induction k generalizing n with
 |zero=>simp at h;subst h;simp[jW]
 | succ k ih=>
  by_cases h0:n=0
  . subst h0;simp[jW]
  rw[Zp h0,qBc];have:=ih (n:=n/10000) (by rw[qCi]at h;omega);omega
