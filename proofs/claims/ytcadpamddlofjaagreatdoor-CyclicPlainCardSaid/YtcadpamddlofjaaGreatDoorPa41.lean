/- A part of the proof. -/
import Derived.Test.YtcadpamddlofjaaGreatDoorPa40
import Derived.Test.YtcadpamddlofjaaGreatDoorPa30
set_option maxHeartbeats 16000000
set_option linter.unusedVariables false
set_option linter.unusedSimpArgs false
set_option maxRecDepth 100000
set_option linter.defProp false
section
namespace Go.Proofs.YtcadpamddlofjaaGreatDoor
open Go Go.Abs
def qfB:List Int->Int->List Int
 | [],x=>[x]
 | y::r,x=>if x<y then y::qfB r x else x::y::r
def qdG (s:List Int)(x:Int):List Int:=(qfB s.reverse x).reverse
def kL (l:List Int):List Int:=l.foldl qdG []
theorem qdF:∀ (s:List Int) (x:Int),(qfB s x).length=s.length+1
 | [],x=>rfl
 | y::r,x=>by unfold qfB;split<;>simp[qdF r x]
theorem qkH (s:List Int)(x:Int):(qdG s x).length=s.length+1:=by simp[qdG,qdF]
theorem Zl (l:List Int)(x:Int):kL (l++[x])=qdG (kL l) x:=by simp[kL,qqo]
theorem Yp:∀ (n:Nat) (l:List Int),l.length=n->(kL l).length=n:=by
 intro n
 induction n with
 | zero=>intro l h;rw[qpf h];rfl
 | succ n ih=>
  intro l h;have hne:l≠[]:=fun e=>by rw[e]at h;simp at h
  rw[<- qq9 hne,Zl,qkH,ih _ (by simp[h])]
theorem qay {A B:List Int}{x:Int}(h:∀ y∈B,x<y):qdG (A++B) x=qdG A x++B:=by
 unfold qdG;rw[qri];have:∀ (C D:List Int),(∀ y∈C,x<y)->qfB (C++D) x=C++qfB D x:=by
  intro C D hC
  induction C with
  | nil=>rfl
  | cons c C ih=>
   have:=hC c (by simp);rw[qpp,qfB,if_pos this,ih fun y hy=>hC y (by simp[hy])];rfl
 rw[this _ _ fun y hy=>h y (by simpa using hy),qri,List.reverse_reverse]
theorem qkF (x:Int):qdG [] x=[x]:=rfl
theorem qhA {A:List Int}{y x:Int}(h:¬ x<y):qdG (A++[y]) x=A++[y,x]:=by
 unfold qdG;rw[qri];show (qfB (y::A.reverse) x).reverse=_;rw[qfB,if_neg h];simp
theorem qn2 (a b:Int):Pure Tryz.prog GG 202 [.int .i64 a,.int .i64 b] (.bool (decide (a<b))):=by
 have hn:∀ z:Int,Pure Tryz.prog GG 254 [.int .i64 z] (.bool false):=fun z=>by
  refine Pure.k qe Tryz.func254 rfl (by kernel_rfl) ?_;simp[-getElem?_pos]
 refine Pure.k qe Tryz.func202 rfl (by kernel_rfl) ?_;simp[-getElem?_pos];refine qc.call (hn a) (by simp) ?_;simp[-getElem?_pos,unA]
def qjQ:List (Nat×Sch×List Nat):=[(6,.step 0 [17,16,15,14] (.step 1 [17,16,15,14] (.step 2 [17,16] (.step 3 [17,16,4] (.step 4 [17,16] (.step 5 [17,16,15,14,9,8] (.step 6 [17,16,15,14,9,8,7] (.step 7 [17,16,15,14,9,8] (.step 8 [17,16,15,14,9] (.step 9 [17,16,15,14] (.step 10 [17,16,15,14,13,12] (.step 11 [17,16,15,14,13,12] (.step 12 [17,16,15,14,13] (.step 13 [17,16,15,14] (.step 14 [17,16,15] (.step 15 [17,16] (.step 16 [17] (.step 17 [] (.done)))))))))))))))))),[])]
def SrtQ (b:Nat)(l:List Int)(H:List Blk)(T:List (Option Nat))(r:AV)(τ:St):Prop:=τ=⟨H.set b (.cells (zK (kL l))),T⟩
theorem qg9 {A B:List Int}{x:Int}{j:Nat}(h:A.length=j):(zK (A++x::B)).drop j=.int .i64 x::zK B:=by
 subst h;unfold zK;rw[qpV,qqO (by simp),qpz (by simp)];simp
theorem qoc {b:Nat}{l:List Int}(hl:l.length<=1000){H:List Blk}{T:List (Option Nat)}(hb:H[b]?=some (.cells (zK l))) :
 qg Tryz.prog GG 196 [.ms b 0 l.length 1,.int .i64 0,.int .i64 l.length] ⟨H,T⟩ (SrtQ b l H T):=by
 refine qg.kO ⟨false,qjQ,[],[]⟩ qe Tryz.func196 rfl (by kernel_rfl) ?_;have hbl:=(qoX.1 hb).1;simp[-getElem?_pos];refine qJ.gen (fun n ev U=>ev 0=.ms b 0 l.length 1/\ev 1=.int .i64 0/\ev 2=.int .i64 l.length/\∃ i,n=l.length+1-i/\1<=i/\(i<=l.length\/i=1)/\ev 6=.int .i64 (i:Int)/\U=⟨H.set b (.cells (zK (kL (l.take i)++l.drop i))),T⟩) l.length ?_ ?_
 . refine⟨by simp,by simp,by simp,1,by omega,by omega,.inr rfl,by simp[wr1],?_⟩;have:kL (l.take 1)++l.drop 1=l:=by
    cases l with
    | nil=>rfl
    | cons a r=>rfl
   rw[this];have:H.set b (.cells (zK l))=H:=by
    apply qpL;intro j;by_cases hj:b=j
    . subst hj;rw[qo2 hbl,hb]
    . rw[qoY hj]
   rw[this]
 . rintro n ev U R hR ⟨e0,e1,e2,i,rfl,hi1,hi2,e6,rfl⟩;by_cases hil:i<l.length
   . have hil':(i:Int)<l.length:=(by omega);have hw1:=wr (n:=(i:Int)+1) (by omega) (by omega);obtain⟨x,hx⟩:∃ x,l[i]?=some x:=⟨_,qo1 hil⟩;have hdr:l.drop i=x::l.drop (i+1):=by
      obtain⟨h1,h2⟩:=qoX.1 hx;rw[qph h1,h2]
     have htk:kL (l.take (i+1))=qdG (kL (l.take i)) x:=(by rw[qpw,hx];exact Zl _ _);have hSl:(kL (l.take i)).length=i:=Yp _ _ (by simp;omega);rw[hdr];generalize kL (l.take i)=S at *;generalize hDD:l.drop (i+1)=D at *;have hDl:D.length=l.length-(i+1):=(by rw[<- hDD];simp);simp[-getElem?_pos,e0,e1,e2,e6,hil,hil'];refine qJ.gen (fun n ev U=>ev 0=.ms b 0 l.length 1/\ev 1=.int .i64 0/\ev 2=.int .i64 l.length/\ev 6=.int .i64 (i:Int)/\∃ j A B,n=j/\j<=i/\ev 7=.int .i64 (j:Int)/\A.length=j/\S=A++B/\(∀ y∈B,x<y)/\U=⟨H.set b (.cells (zK (A++x::(B++D)))),T⟩) i ?_ ?_
     . exact⟨by simp[e0],by simp[e1],by simp[e2],by simp[e6],i,S,[],rfl,qo7 _,by simp,hSl,by simp,by simp,by simp⟩
     . rintro n ev U R2 hR2 ⟨e0,e1,e2,e6,j,A,B,rfl,hji,e7,hAl,hSAB,hBx,rfl⟩;have hBl:B.length=i-n:=(by have:=hSl;rw[hSAB,qo3]at this;omega);have fin:∀ ev',ev' 0=.ms b 0 l.length 1->ev' 1=.int .i64 0->ev' 2=.int .i64 l.length->ev' 6=.int .i64 ((i+1:Nat):Int)->qdG S x=A++x::B->R ev' ⟨H.set b (.cells (zK (A++x::(B++D)))),T⟩:=fun ev' a0 a1 a2 a6 hins=>by
        refine hR (l.length+1-(i+1)) _ _ (by omega) ⟨a0,a1,a2,i+1,rfl,by omega,.inl (by omega),a6,?_⟩;rw[htk,hins];simp[hDD]
       cases n with
       | zero=>
        have hA0:A=[]:=qpf hAl;subst hA0;simp[-getElem?_pos,e0,e1,e2,e6];rw[Zk (by rfl)];simp[-getElem?_pos,e0,e1,e2,e6,e7,hw1];refine fin _ (by simp[e0]) (by simp[e1]) (by simp[e2]) (by simp) ?_;rw[hSAB];have:=qay (A:=[]) hBx;simpa[qkF] using this
       | succ j=>
        obtain⟨A',y,rfl⟩:∃ A' y,A=A'++[y]:=by
         have hne:A≠[]:=fun e=>by rw[e]at hAl;simp at hAl
         exact⟨A.dropLast,A.getLast hne,(qq9 hne).symm⟩
        have hA'l:A'.length=j:=(by simpa using hAl);have hj1:=wr (n:=((j:Int)+1)-1) (by omega) (by omega);have hjj:((j:Int)+1)-1=j:=(by omega);rw[hjj]at hj1;have hrow:(A'++[y])++x::(B++D)=A'++y::x::(B++D):=(by simp);have hd1:(zK (A'++y::x::(B++D))).drop (j+1)=.int .i64 x::zK (B++D):=by
         have:=qg9 (A:=A'++[y]) (x:=x) (B:=B++D) (j:=j+1) (by simpa using hA'l)
         rwa[hrow]at this
        have hd0:(zK (A'++y::x::(B++D))).drop j=.int .i64 y::zK (x::(B++D)):=qg9 hA'l;have hlen:(zK (A'++y::x::(B++D))).length=l.length:=(by rw[za];simp;omega);have hget:∀ z:Blk,(H.set b z)[b]?=some z:=fun z=>qo2 hbl
        have hjl:(j:Int)+1<l.length:=(by omega);have hjl0:(j:Int)<l.length:=(by omega);have hjn:(0:Int)<=(j:Int)+1:=(by omega);have hjt:((j:Int)+1).toNat=j+1:=(by omega);have hjl1:j+1+1<=l.length:=(by omega);have hjl2:j+1<=l.length:=(by omega);have hjpos:(0:Int)<(j:Int)+1:=(by omega);simp only[Int.natCast_add,qr7]at e7;rw[hrow]at fin ⊢;have hlt:=qn2 x y;simp[-getElem?_pos,e0,e1,e2,e6];rw[Zk (by rfl)];simp[-getElem?_pos,e0,e1,e2,e6,e7,hjpos,hjl,hjl0,hjn,hjt,hget,hlen,hjl1,hjl2,hd1,hd0,hjj,hj1];refine qc.call hlt (by simp) ?_;by_cases hxy:x<y
        . have hs1:(zK (A'++y::x::(B++D))).set (j+1) (.int .i64 y)=zK (A'++y::y::(B++D)):=by
           rw[yf,qpW _ _ (by omega),hA'l,qpM];rfl
          have hs2:(zK (A'++y::y::(B++D))).set j (.int .i64 x)=zK (A'++x::y::(B++D)):=by
           rw[yf,qpW _ _ (by omega),hA'l,qql];rfl
          have hlen2:(zK (A'++y::y::(B++D))).length=l.length:=(by rw[za];simp;omega);simp[-getElem?_pos,hxy,e0,e1,e2,e6,e7,hjj,hj1];rw[qI rfl];simp[-getElem?_pos,qP,e0,e1,e2,e6,e7,hjpos,hjl,hjl0,hjn,hjt,hget,hlen,hlen2,hjl1,hjl2,hd1,hd0,hjj,hj1,hs1,hs2];exact hR2 j _ _ (by omega) ⟨by simp[e0],by simp[e1],by simp[e2],by simp[e6],j,A',y::B,rfl,by omega,by simp,hA'l,by rw[hSAB];simp,fun z hz=>by
           rcases qpm.1 hz with rfl|hz
           . exact hxy
           . exact hBx z hz,by simp⟩
        . simp[-getElem?_pos,hxy,e0,e1,e2,e6,e7,hw1];refine fin _ (by simp[e0]) (by simp[e1]) (by simp[e2]) (by simp) ?_;rw[hSAB,qay hBx,qhA hxy];simp
   . have hil':¬ (i:Int)<l.length:=(by omega);have hq:SrtQ b l H T (.tup []) ⟨H.set b (.cells (zK (kL (l.take i)++l.drop i))),T⟩:=by
      have h1:l.take i=l:=qo6 (by omega);have h2:l.drop i=[]:=qpz (by omega);rw[h1,h2,qpB];rfl
     simp[-getElem?_pos,e0,e1,e2,e6,hil,hil'];exact hq
theorem qnG {b:Nat}{l:List Int}(hl:l.length<=12)(m:AV){H:List Blk}{T:List (Option Nat)}(hb:H[b]?=some (.cells (zK l))) :
 qg Tryz.prog GG 141 [.ms b 0 l.length 1,.int .i64 0,.int .i64 l.length,m] ⟨H,T⟩ (SrtQ b l H T):=by
 refine qg.k qe Tryz.func141 rfl (by kernel_rfl) ?_;have hw:=wr (n:=(l.length:Int)) (by omega) (by omega);have hle:(l.length:Int)<=12:=by omega
 simp[-getElem?_pos];refine qJ.gen (fun n ev U=>ev 0=.ms b 0 l.length 1/\ev 1=.int .i64 0/\ev 2=.int .i64 l.length/\U=⟨H,T⟩) 0 ⟨by simp,by simp,by simp,rfl⟩ ?_;rintro n ev U R hR ⟨h0,h1,h2,rfl⟩;simp[-getElem?_pos,h0,h1,h2,hw,hle];refine qc.acall (qoc (by omega) hb) ?_;rintro v τ h;simp[-getElem?_pos];exact h
theorem qhr:∀ n:Nat,n<=12->∃ m,Pure Tryz.prog GG 142 [.int .u64 n] (.int .i64 m):=by
 intro n h;have:n=0\/n=1\/n=2\/n=3\/n=4\/n=5\/n=6\/n=7\/n=8\/n=9\/n=10\/n=11\/n=12:=by omega
 rcases this with rfl|rfl|rfl|rfl|rfl|rfl|rfl|rfl|rfl|rfl|rfl|rfl|rfl
 . exact⟨0,Pure.closedA Q7 (K:=K0) jJ 100 10 (by kernel_rfl)⟩
 . exact⟨1,Pure.closedA Q7 (K:=K0) jJ 100 10 (by kernel_rfl)⟩
 . exact⟨2,Pure.closedA Q7 (K:=K0) jJ 100 10 (by kernel_rfl)⟩
 . exact⟨2,Pure.closedA Q7 (K:=K0) jJ 100 10 (by kernel_rfl)⟩
 . exact⟨3,Pure.closedA Q7 (K:=K0) jJ 100 10 (by kernel_rfl)⟩
 . exact⟨3,Pure.closedA Q7 (K:=K0) jJ 100 10 (by kernel_rfl)⟩
 . exact⟨3,Pure.closedA Q7 (K:=K0) jJ 100 10 (by kernel_rfl)⟩
 . exact⟨3,Pure.closedA Q7 (K:=K0) jJ 100 10 (by kernel_rfl)⟩
 . exact⟨4,Pure.closedA Q7 (K:=K0) jJ 100 10 (by kernel_rfl)⟩
 . exact⟨4,Pure.closedA Q7 (K:=K0) jJ 100 10 (by kernel_rfl)⟩
 . exact⟨4,Pure.closedA Q7 (K:=K0) jJ 100 10 (by kernel_rfl)⟩
 . exact⟨4,Pure.closedA Q7 (K:=K0) jJ 100 10 (by kernel_rfl)⟩
 . exact⟨4,Pure.closedA Q7 (K:=K0) jJ 100 10 (by kernel_rfl)⟩
theorem qjy {b:Nat}{l:List Int}(hl:l.length<=12){H:List Blk}{T:List (Option Nat)}(hb:H[b]?=some (.cells (zK l))) :
 qg Tryz.prog GG 101 [.ms b 0 l.length 1] ⟨H,T⟩ (SrtQ b l H T):=by
 refine qg.k qe Tryz.func101 rfl (by kernel_rfl) ?_;have ec:IntKind.u64.wrap (l.length:Int)=l.length:=by
  have:l.length=0\/l.length=1\/l.length=2\/l.length=3\/l.length=4\/l.length=5\/l.length=6\/l.length=7\/l.length=8\/l.length=9\/l.length=10\/l.length=11\/l.length=12:=by omega
  rcases this with e|e|e|e|e|e|e|e|e|e|e|e|e<;>rw[e]<;>decide
 obtain⟨m,hm⟩:=qhr l.length hl;simp[-getElem?_pos,yA,ec];refine qc.call (G:=z5 GG) hm (by simp[qp,qC]) ?_;simp[-getElem?_pos];refine qc.acall (qnG hl _ hb) ?_;rintro v τ h;simp[-getElem?_pos];exact h
theorem sort0 (sz:Nat)(tok:Tok)(U:St):qg Tryz.prog GG 101 [.sl sz [] tok] U (fun _ τ=>τ=U):=by
 obtain⟨m,hm⟩:=qhr 0 (by omega);have hm:Pure Tryz.prog GG 142 [.int .u64 0] (.int .i64 m):=hm;have ec:IntKind.u64.wrap 0=0:=by decide
 have hw:IntKind.i64.wrap 0=0:=by decide
 refine qg.k qe Tryz.func101 rfl (by kernel_rfl) ?_;simp[-getElem?_pos,yA,ec];refine qc.call (G:=z5 GG) hm (by simp[qp,qC]) ?_;simp[-getElem?_pos];have h371:∀ τ:St,qg Tryz.prog GG 196 [.sl sz [] tok,.int .i64 0,.int .i64 0] τ (fun _ τ'=>τ'=τ):=fun τ=>by
  refine qg.k qe Tryz.func196 rfl (by kernel_rfl) ?_;simp[-getElem?_pos];refine qJ.gen (fun _ ev (τ':St)=>ev 6=.int .i64 1/\ev 2=.int .i64 0/\τ'=τ) 0 ⟨by simp[wr1],by simp,rfl⟩ ?_;rintro n ev τ' R hR ⟨h6,h2,rfl⟩;simp[-getElem?_pos,h6,h2]
 have h295:qg Tryz.prog GG 141 [.sl sz [] tok,.int .i64 0,.int .i64 0,.int .i64 m] U (fun _ τ'=>τ'=U):=by
  refine qg.k qe Tryz.func141 rfl (by kernel_rfl) ?_;simp[-getElem?_pos];refine qJ.gen (fun _ ev (τ:St)=>ev 0=.sl sz [] tok/\ev 1=.int .i64 0/\ev 2=.int .i64 0/\τ=U) 0 ⟨by simp,by simp,by simp,rfl⟩ ?_;rintro n ev τ R hR ⟨h0,h1,h2,rfl⟩;simp[-getElem?_pos,h0,h1,h2,hw];refine qc.acall (h371 τ) ?_;rintro v τ' rfl;simp[-getElem?_pos]
 refine qc.acall h295 ?_;rintro v τ rfl;simp[-getElem?_pos]
theorem qeD (l:List Int)(hl:l.length<=12)(tok:Tok):Pure Tryz.prog GG 62 [.fn 102 [] [.rptr [.sl 1 (QC l) tok]]] (.sl 1 ((kL l).map qu) .none):=by
 refine Pure.kO o0 true qe Tryz.func62 rfl (by kernel_rfl) ?_;simp[-getElem?_pos];refine qc.acall (Wg _ l tok (by omega)) ?_;rintro v ⟨H,T⟩ ⟨h1,h2,h3⟩;have hlen:(kL l).length=l.length:=Yp _ _ rfl;have key:∃ Q:AV->St->Prop,qg Tryz.prog GG 101 [v] ⟨H,T⟩ Q/\∀ r τ,Q r τ->∃ b,js b 1 qu τ.H v (kL l):=by
  rcases h3 with ⟨rfl,rfl⟩|⟨b,rfl,h0,hb⟩
  . exact⟨_,sort0 _ _ _,fun r τ e=>⟨0,.inl ⟨rfl,rfl⟩⟩⟩
  . refine⟨_,qjy hl hb,fun r τ e=>⟨b,.inr ⟨fun e=>h0 (qpf (by rw[<- hlen,e];rfl)),by rw[hlen],?_⟩⟩⟩;rw[e,<- kW];exact qo2 (qoX.1 hb).1
 obtain⟨Q,hQ,hi⟩:=key;simp[-getElem?_pos];refine qc.acall hQ ?_;rintro r τ hr;obtain⟨b,ho⟩:=hi r τ hr;simp[-getElem?_pos];exact⟨ho.frzNo (fun _=>rfl) (fun _=>rfl) (fun _=>rfl) 7,ho.frz (fun _=>rfl) (fun _=>rfl) (fun _=>rfl) 7⟩
theorem wc:∀ l:List Int,zj (QC l)=true
 | []=>rfl
 | a::r=>by
  have:=wc r;simpa[QC,zj,qp] using this
theorem qfW (l:List Int)(tok:Tok)(ht:∀ t k,tok≠.chain t k):Pure Tryz.prog GG 63 [.sl 1 (QC l) tok] (.fn 102 [] [.rptr [.sl 1 (QC l) tok]]):=by
 refine Pure.kO o0 true qe Tryz.func63 rfl (by kernel_rfl) ?_;simp[-getElem?_pos];have hn:qC (.sl 1 (QC l) tok)=true:=by
  have:=wc l;cases tok<;>simp_all[qC]
 have e:frz [Blk.cells [.sl 1 (QC l) tok]] 8 (.fn 102 [] [.ptr 0 0])=.fn 102 [] [.rptr [.sl 1 (QC l) tok]]:=by
  rw[frz];simp only[qC];simp[qhL,qG hn,qp]
 rw[e];have:=wc l;exact⟨by cases tok<;>simp_all[qC,qp],Leq.refl _⟩
end Go.Proofs.YtcadpamddlofjaaGreatDoor
end
