/- A part of the proof. -/
import Derived.Test.YtkpkjbchlabaaaaGreatDoorSa39
import Derived.Test.YtkpkjbchlabaaaaGreatDoorSa31
import Derived.Test.YtkpkjbchlabaaaaGreatDoorSa32
set_option maxHeartbeats 16000000
set_option linter.unusedVariables false
set_option linter.unusedSimpArgs false
set_option maxRecDepth 100000
set_option linter.defProp false
section
namespace Go.Proofs.YtkpkjbchlabaaaaGreatDoor
open Go Go.Abs
theorem wr1s:IntKind.i64.wrap 1=1:=wr (by omega) (by omega)
def qgn:List Int->Int->List Int
 | [],x=>[x]
 | y::r,x=>if x<y then y::qgn r x else x::y::r
def qen (s:List Int)(x:Int):List Int:=(qgn s.reverse x).reverse
def wg (l:List Int):List Int:=l.foldl qen []
theorem qem:∀ (s:List Int) (x:Int),(qgn s x).length=s.length+1
 | [],x=>rfl
 | y::r,x=>by unfold qgn;split<;>simp[qem r x]
theorem qlq (s:List Int)(x:Int):(qen s x).length=s.length+1:=by simp[qen,qem]
theorem Zw (l:List Int)(x:Int):wg (l++[x])=qen (wg l) x:=by simp[wg,qrp]
theorem YN:∀ (n:Nat) (l:List Int),l.length=n->(wg l).length=n:=by
 intro n
 induction n with
 | zero=>intro l h;rw[qqv h];rfl
 | succ n ih=>
  intro l h;have hne:l≠[]:=fun e=>by rw[e]at h;simp at h
  rw[<- qsE hne,Zw,qlq,ih _ (by simp[h])]
theorem qbd {A B:List Int}{x:Int}(h:∀ y∈B,x<y):qen (A++B) x=qen A x++B:=by
 unfold qen;rw[qsM];have:∀ (C D:List Int),(∀ y∈C,x<y)->qgn (C++D) x=C++qgn D x:=by
  intro C D hC
  induction C with
  | nil=>rfl
  | cons c C ih=>
   have:=hC c (by simp);rw[qqz,qgn,if_pos this,ih fun y hy=>hC y (by simp[hy])];rfl
 rw[this _ _ fun y hy=>h y (by simpa using hy),qsM,List.reverse_reverse]
theorem qlo (x:Int):qen [] x=[x]:=rfl
theorem qh9 {A:List Int}{y x:Int}(h:¬ x<y):qen (A++[y]) x=A++[y,x]:=by
 unfold qen;rw[qsM];show (qgn (y::A.reverse) x).reverse=_;rw[qgn,if_neg h];simp
theorem qoZ (a b:Int):Pure Tryz.prog GG 229 [.int .i64 a,.int .i64 b] (.bool (decide (a<b))):=by
 have hn:∀ z:Int,Pure Tryz.prog GG 290 [.int .i64 z] (.bool false):=fun z=>by
  refine Pure.k qe Tryz.func290 rfl (by kernel_rfl) ?_;simp[-getElem?_pos]
 refine Pure.k qe Tryz.func229 rfl (by kernel_rfl) ?_;simp[-getElem?_pos];refine qc.call (hn a) (by simp) ?_;simp[-getElem?_pos]
def qkv:List (Nat×Sch×List Nat):=[(6,.step 0 [17,16,15,14] (.step 1 [17,16,15,14] (.step 2 [17,16] (.step 3 [17,16,4] (.step 4 [17,16] (.step 5 [17,16,15,14,9,8] (.step 6 [17,16,15,14,9,8,7] (.step 7 [17,16,15,14,9,8] (.step 8 [17,16,15,14,9] (.step 9 [17,16,15,14] (.step 10 [17,16,15,14,13,12] (.step 11 [17,16,15,14,13,12] (.step 12 [17,16,15,14,13] (.step 13 [17,16,15,14] (.step 14 [17,16,15] (.step 15 [17,16] (.step 16 [17] (.step 17 [] (.done)))))))))))))))))),[])]
def SrtQ (b:Nat)(l:List Int)(H:List Blk)(T:List (Option Nat))(r:AV)(τ:St):Prop:=τ=⟨H.set b (.cells (zI (wg l))),T⟩
theorem qhQ {A B:List Int}{x:Int}{j:Nat}(h:A.length=j):(zI (A++x::B)).drop j=.int .i64 x::zI B:=by
 subst h;unfold zI;rw[qrb,qsB (by simp),qqO (by simp)];simp
theorem qpc {b:Nat}{l:List Int}(hl:l.length<=1000){H:List Blk}{T:List (Option Nat)}(hb:H[b]?=some (.cells (zI l))) :
 qf Tryz.prog GG 223 [.ms b 0 l.length 1,.int .i64 0,.int .i64 l.length] ⟨H,T⟩ (SrtQ b l H T):=by
 refine qf.kO ⟨false,qkv,[],[]⟩ qe Tryz.func223 rfl (by kernel_rfl) ?_;have hbl:=(qqc.1 hb).1;simp[-getElem?_pos];refine qX.gen (fun n ev U=>ev 0=.ms b 0 l.length 1/\ev 1=.int .i64 0/\ev 2=.int .i64 l.length/\∃ i,n=l.length+1-i/\1<=i/\(i<=l.length\/i=1)/\ev 6=.int .i64 (i:Int)/\U=⟨H.set b (.cells (zI (wg (l.take i)++l.drop i))),T⟩) l.length ?_ ?_
 . refine⟨by simp,by simp,by simp,1,by omega,by omega,.inr rfl,by simp[wr1s],?_⟩;have:wg (l.take 1)++l.drop 1=l:=by
    cases l with
    | nil=>rfl
    | cons a r=>rfl
   rw[this];have:H.set b (.cells (zI l))=H:=by
    apply qq3;intro j;by_cases hj:b=j
    . subst hj;rw[qqh hbl,hb]
    . rw[qqf hj]
   rw[this]
 . rintro n ev U R hR ⟨e0,e1,e2,i,rfl,hi1,hi2,e6,rfl⟩;by_cases hil:i<l.length
   . have hil':(i:Int)<l.length:=(by omega);have hw1:=wr (n:=(i:Int)+1) (by omega) (by omega);obtain⟨x,hx⟩:∃ x,l[i]?=some x:=⟨_,qqe hil⟩;have hdr:l.drop i=x::l.drop (i+1):=by
      obtain⟨h1,h2⟩:=qqc.1 hx;rw[qqu h1,h2]
     have htk:wg (l.take (i+1))=qen (wg (l.take i)) x:=(by rw[qqH,hx];exact Zw _ _);have hSl:(wg (l.take i)).length=i:=YN _ _ (by simp;omega);rw[hdr];generalize wg (l.take i)=S at *;generalize hDD:l.drop (i+1)=D at *;have hDl:D.length=l.length-(i+1):=(by rw[<- hDD];simp);simp[-getElem?_pos,e2,e6,hil'];refine qX.gen (fun n ev U=>ev 0=.ms b 0 l.length 1/\ev 1=.int .i64 0/\ev 2=.int .i64 l.length/\ev 6=.int .i64 (i:Int)/\∃ j A B,n=j/\j<=i/\ev 7=.int .i64 (j:Int)/\A.length=j/\S=A++B/\(∀ y∈B,x<y)/\U=⟨H.set b (.cells (zI (A++x::(B++D)))),T⟩) i ?_ ?_
     . exact⟨by simp[e0],by simp[e1],by simp[e2],by simp[e6],i,S,[],rfl,qqn _,by simp,hSl,by simp,by simp,by simp⟩
     . rintro n ev U R2 hR2 ⟨e0,e1,e2,e6,j,A,B,rfl,hji,e7,hAl,hSAB,hBx,rfl⟩;have hBl:B.length=i-n:=(by have:=hSl;rw[hSAB,qqg]at this;omega);have fin:∀ ev',ev' 0=.ms b 0 l.length 1->ev' 1=.int .i64 0->ev' 2=.int .i64 l.length->ev' 6=.int .i64 ((i+1:Nat):Int)->qen S x=A++x::B->R ev' ⟨H.set b (.cells (zI (A++x::(B++D)))),T⟩:=fun ev' a0 a1 a2 a6 hins=>by
        refine hR (l.length+1-(i+1)) _ _ (by omega) ⟨a0,a1,a2,i+1,rfl,by omega,.inl (by omega),a6,?_⟩;rw[htk,hins];simp[hDD]
       cases n with
       | zero=>
        have hA0:A=[]:=qqv hAl;subst hA0;simp[-getElem?_pos];rw[Zv (by rfl)];simp[-getElem?_pos,e1,e6,e7,hw1];refine fin _ (by simp[e0]) (by simp[e1]) (by simp[e2]) (by simp) ?_;rw[hSAB];have:=qbd (A:=[]) hBx;simpa[qlo] using this
       | succ j=>
        obtain⟨A',y,rfl⟩:∃ A' y,A=A'++[y]:=by
         have hne:A≠[]:=fun e=>by rw[e]at hAl;simp at hAl
         exact⟨A.dropLast,A.getLast hne,(qsE hne).symm⟩
        have hA'l:A'.length=j:=(by simpa using hAl);have hj1:=wr (n:=((j:Int)+1)-1) (by omega) (by omega);have hjj:((j:Int)+1)-1=j:=(by omega);rw[hjj]at hj1;have hrow:(A'++[y])++x::(B++D)=A'++y::x::(B++D):=(by simp);have hd1:(zI (A'++y::x::(B++D))).drop (j+1)=.int .i64 x::zI (B++D):=by
         have:=qhQ (A:=A'++[y]) (x:=x) (B:=B++D) (j:=j+1) (by simpa using hA'l)
         rwa[hrow]at this
        have hd0:(zI (A'++y::x::(B++D))).drop j=.int .i64 y::zI (x::(B++D)):=qhQ hA'l;have hlen:(zI (A'++y::x::(B++D))).length=l.length:=(by rw[za];simp;omega);have hget:∀ z:Blk,(H.set b z)[b]?=some z:=fun z=>qqh hbl
        have hjl:(j:Int)+1<l.length:=(by omega);have hjl0:(j:Int)<l.length:=(by omega);have hjn:(0:Int)<=(j:Int)+1:=(by omega);have hjt:((j:Int)+1).toNat=j+1:=(by omega);have hjl1:j+1+1<=l.length:=(by omega);have hjl2:j+1<=l.length:=(by omega);have hjpos:(0:Int)<(j:Int)+1:=(by omega);simp only[qtE,qtF]at e7;rw[hrow]at fin ⊢;have hlt:=qoZ x y;simp[-getElem?_pos];rw[Zv (by rfl)];simp[-getElem?_pos,e0,e1,e7,hjpos,hjl,hjl0,hjn,hjt,hget,hlen,hjl1,hjl2,hd1,hd0,hjj,hj1];refine qc.call hlt (by simp) ?_;by_cases hxy:x<y
        . have hs1:(zI (A'++y::x::(B++D))).set (j+1) (.int .i64 y)=zI (A'++y::y::(B++D)):=by
           rw[yz,qrh _ _ (by omega),hA'l,qq7];rfl
          have hs2:(zI (A'++y::y::(B++D))).set j (.int .i64 x)=zI (A'++x::y::(B++D)):=by
           rw[yz,qrh _ _ (by omega),hA'l,qro];rfl
          have hlen2:(zI (A'++y::y::(B++D))).length=l.length:=(by rw[za];simp;omega);simp[-getElem?_pos,hxy];rw[qG rfl];simp[-getElem?_pos,qN,e0,e7,hjl,hjl0,hjn,hjt,hget,hlen,hlen2,hjl1,hjl2,hd1,hd0,hjj,hj1,hs1,hs2];exact hR2 j _ _ (by omega) ⟨by simp[e0],by simp[e1],by simp[e2],by simp[e6],j,A',y::B,rfl,by omega,by simp,hA'l,by rw[hSAB];simp,fun z hz=>by
           rcases qqE.1 hz with rfl|hz
           . exact hxy
           . exact hBx z hz,by simp⟩
        . simp[-getElem?_pos,hxy,e6,hw1];refine fin _ (by simp[e0]) (by simp[e1]) (by simp[e2]) (by simp) ?_;rw[hSAB,qbd hBx,qh9 hxy];simp
   . have hil':¬ (i:Int)<l.length:=(by omega);have hq:SrtQ b l H T (.tup []) ⟨H.set b (.cells (zI (wg (l.take i)++l.drop i))),T⟩:=by
      have h1:l.take i=l:=qqk (by omega);have h2:l.drop i=[]:=qqO (by omega);rw[h1,h2,qqV];rfl
     simp[-getElem?_pos,e2,e6,hil'];exact hq
theorem len381 (n:Nat)(h:n<=12):Pure Tryz.prog GG 233 [.int .u64 n] (.int .i64 ((if n=0 then 0 else if n=1 then 1 else if n<4 then 2 else if n<8 then 3 else 4:Nat):Int)):=by
 refine Pure.k qe Tryz.func233 rfl (by kernel_rfl) ?_;have h1:¬ (4294967296:Int)<=n:=by omega
 have h2:¬ (65536:Int)<=n:=by omega
 have h3:¬ (256:Int)<=n:=by omega
 have h4:IntKind.u8.wrap (n:Int)=n:=by
  have:n=0\/n=1\/n=2\/n=3\/n=4\/n=5\/n=6\/n=7\/n=8\/n=9\/n=10\/n=11\/n=12:=by omega
  rcases this with rfl|rfl|rfl|rfl|rfl|rfl|rfl|rfl|rfl|rfl|rfl|rfl|rfl<;>decide
 simp[-getElem?_pos,h1,h2,h3,yK,h4];have:n=0\/n=1\/n=2\/n=3\/n=4\/n=5\/n=6\/n=7\/n=8\/n=9\/n=10\/n=11\/n=12:=by omega
 have w0:IntKind.i64.wrap 0=0:=by decide
 have w1:IntKind.i64.wrap 1=1:=by decide
 have w2:IntKind.i64.wrap 2=2:=by decide
 have w3:IntKind.i64.wrap 3=3:=by decide
 have w4:IntKind.i64.wrap 4=4:=by decide
 rcases this with rfl|rfl|rfl|rfl|rfl|rfl|rfl|rfl|rfl|rfl|rfl|rfl|rfl<;>simp[yK,w0,w1,w2,w3,w4]
theorem qo0 (n:Nat)(h:n<=12):Pure Tryz.prog GG 173 [.int .u64 n] (.int .i64 ((if n=0 then 0 else if n=1 then 1 else if n<4 then 2 else if n<8 then 3 else 4:Nat):Int)):=by
 refine Pure.k qe Tryz.func173 rfl (by kernel_rfl) ?_;have h1:=len381 n h;generalize ((if n=0 then 0 else if n=1 then 1 else if n<4 then 2 else if n<8 then 3 else 4:Nat):Int)=m at *;simp[-getElem?_pos];refine qc.call h1 (by simp) ?_;simp[-getElem?_pos]
theorem qoz {b:Nat}{l:List Int}(hl:l.length<=12)(m:AV){H:List Blk}{T:List (Option Nat)}(hb:H[b]?=some (.cells (zI l))) :
 qf Tryz.prog GG 172 [.ms b 0 l.length 1,.int .i64 0,.int .i64 l.length,m] ⟨H,T⟩ (SrtQ b l H T):=by
 refine qf.k qe Tryz.func172 rfl (by kernel_rfl) ?_;have hw:=wr (n:=(l.length:Int)) (by omega) (by omega);have hle:(l.length:Int)<=12:=by omega
 simp[-getElem?_pos];refine qX.gen (fun n ev U=>ev 0=.ms b 0 l.length 1/\ev 1=.int .i64 0/\ev 2=.int .i64 l.length/\U=⟨H,T⟩) 0 ⟨by simp,by simp,by simp,rfl⟩ ?_;rintro n ev U R hR ⟨h0,h1,h2,rfl⟩;simp[-getElem?_pos,h0,h1,h2,hw,hle];refine qc.acall (qpc (by omega) hb) ?_;rintro v τ h;simp[-getElem?_pos];exact h
theorem qhY:∀ n:Nat,n<=12->∃ m,Pure Tryz.prog GG 173 [.int .u64 n] (.int .i64 m):=fun n h=>⟨_,qo0 n h⟩
theorem qkc {b:Nat}{l:List Int}(hl:l.length<=12){H:List Blk}{T:List (Option Nat)}(hb:H[b]?=some (.cells (zI l))) :
 qf Tryz.prog GG 114 [.ms b 0 l.length 1] ⟨H,T⟩ (SrtQ b l H T):=by
 refine qf.k qe Tryz.func114 rfl (by kernel_rfl) ?_;have ec:IntKind.u64.wrap (l.length:Int)=l.length:=by
  have:l.length=0\/l.length=1\/l.length=2\/l.length=3\/l.length=4\/l.length=5\/l.length=6\/l.length=7\/l.length=8\/l.length=9\/l.length=10\/l.length=11\/l.length=12:=by omega
  rcases this with e|e|e|e|e|e|e|e|e|e|e|e|e<;>rw[e]<;>decide
 obtain⟨m,hm⟩:=qhY l.length hl;simp[-getElem?_pos,yK,ec];refine qc.call (G:=Jn GG) hm (by simp[qv,qR]) ?_;simp[-getElem?_pos];refine qc.acall (qoz hl _ hb) ?_;rintro v τ h;simp[-getElem?_pos];exact h
theorem sort0 (sz:Nat)(tok:Tok)(U:St):qf Tryz.prog GG 114 [.sl sz [] tok] U (fun _ τ=>τ=U):=by
 obtain⟨m,hm⟩:=qhY 0 (by omega);have hm:Pure Tryz.prog GG 173 [.int .u64 0] (.int .i64 m):=hm;have ec:IntKind.u64.wrap 0=0:=by decide
 have hw:IntKind.i64.wrap 0=0:=by decide
 refine qf.k qe Tryz.func114 rfl (by kernel_rfl) ?_;simp[-getElem?_pos,yK,ec];refine qc.call (G:=Jn GG) hm (by simp[qv,qR]) ?_;simp[-getElem?_pos];have h371:∀ τ:St,qf Tryz.prog GG 223 [.sl sz [] tok,.int .i64 0,.int .i64 0] τ (fun _ τ'=>τ'=τ):=fun τ=>by
  refine qf.k qe Tryz.func223 rfl (by kernel_rfl) ?_;simp[-getElem?_pos];refine qX.gen (fun _ ev (τ':St)=>ev 6=.int .i64 1/\ev 2=.int .i64 0/\τ'=τ) 0 ⟨by simp[wr1s],by simp,rfl⟩ ?_;rintro n ev τ' R hR ⟨h6,h2,rfl⟩;simp[-getElem?_pos,h6,h2]
 have h295:qf Tryz.prog GG 172 [.sl sz [] tok,.int .i64 0,.int .i64 0,.int .i64 m] U (fun _ τ'=>τ'=U):=by
  refine qf.k qe Tryz.func172 rfl (by kernel_rfl) ?_;simp[-getElem?_pos];refine qX.gen (fun _ ev (τ:St)=>ev 0=.sl sz [] tok/\ev 1=.int .i64 0/\ev 2=.int .i64 0/\τ=U) 0 ⟨by simp,by simp,by simp,rfl⟩ ?_;rintro n ev τ R hR ⟨h0,h1,h2,rfl⟩;simp[-getElem?_pos,h0,h1,h2,hw];refine qc.acall (h371 τ) ?_;rintro v τ' rfl;simp[-getElem?_pos]
 refine qc.acall h295 ?_;rintro v τ rfl;simp[-getElem?_pos]
theorem qfm (l:List Int)(hl:l.length<=12)(tok:Tok):Pure Tryz.prog GG 59 [.fn 115 [] [.rptr [.sl 1 (Jl l) tok]]] (.sl 1 ((wg l).map qt) .none):=by
 refine Pure.kO o0 true qe Tryz.func59 rfl (by kernel_rfl) ?_;simp[-getElem?_pos];refine qc.acall (qf9 _ l tok (by omega)) ?_;rintro v ⟨H,T⟩ ⟨h1,h2,h3⟩;have hlen:(wg l).length=l.length:=YN _ _ rfl;have key:∃ Q:AV->St->Prop,qf Tryz.prog GG 114 [v] ⟨H,T⟩ Q/\∀ r τ,Q r τ->∃ b,js b 1 qt τ.H v (wg l):=by
  rcases h3 with ⟨rfl,rfl⟩|⟨b,rfl,h0,hb⟩
  . exact⟨_,sort0 _ _ _,fun r τ e=>⟨0,.inl ⟨rfl,rfl⟩⟩⟩
  . refine⟨_,qkc hl hb,fun r τ e=>⟨b,.inr ⟨fun e=>h0 (qqv (by rw[<- hlen,e];rfl)),by rw[hlen],?_⟩⟩⟩;rw[e,<- wm];exact qqh (qqc.1 hb).1
 obtain⟨Q,hQ,hi⟩:=key;simp[-getElem?_pos];refine qc.acall hQ ?_;rintro r τ hr;obtain⟨b,ho⟩:=hi r τ hr;simp[-getElem?_pos];exact⟨ho.frzNo (fun _=>rfl) (fun _=>rfl) (fun _=>rfl) 7,ho.frz (fun _=>rfl) (fun _=>rfl) (fun _=>rfl) 7⟩
theorem wy:∀ l:List Int,zl (Jl l)=true
 | []=>rfl
 | a::r=>by
  have:=wy r;simpa[Jl,zl,qv] using this
theorem qgF (l:List Int)(tok:Tok)(ht:∀ t k,tok≠.chain t k):Pure Tryz.prog GG 60 [.sl 1 (Jl l) tok] (.fn 115 [] [.rptr [.sl 1 (Jl l) tok]]):=by
 refine Pure.kO o0 true qe Tryz.func60 rfl (by kernel_rfl) ?_;simp[-getElem?_pos];have hn:qR (.sl 1 (Jl l) tok)=true:=by
  have:=wy l;cases tok<;>simp_all[qR]
 have e:frz [Blk.cells [.sl 1 (Jl l) tok]] 8 (.fn 115 [] [.ptr 0 0])=.fn 115 [] [.rptr [.sl 1 (Jl l) tok]]:=by
  rw[frz];simp only[qR];simp[qik,qI hn,qv]
 rw[e];have:=wy l;exact⟨by cases tok<;>simp_all[qR,qv],Leq.refl _⟩
end Go.Proofs.YtkpkjbchlabaaaaGreatDoor
end
