/- A part of the proof. -/
import Derived.Test.YtoibbcnfhhggnaaGreatDoorPc18
set_option maxHeartbeats 16000000
set_option linter.unusedVariables false
set_option linter.unusedSimpArgs false
set_option maxRecDepth 100000
set_option linter.defProp false
section
namespace Go.Proofs.YtoibbcnfhhggnaaGreatDoor
open Go Go.Abs
section
def shB (up:Bool)(x:Nat->Bool)(s k:Nat):Bool:=if up=true then decide (s<=k)&&x (k-s) else decide (k+s<16)&&x (k+s)
def qeN (up:Bool):Int:=if up=true then 1 else -1
def JM (up:Bool)(s k:Nat):Int:=(k:Int)-qeN up*s
theorem qpm {up:Bool}{s k:Nat}(hs:s<16)(hk:k<16)(h:0<=JM up s k/\JM up s k<16):∃ m:Nat,JM up s k=m/\m<16/\∀ x,shB up x s k=x m:=by
 unfold JM qeN shB at *
 cases up with
 | true=>
  simp at h⊢;exact⟨k-s,by omega,by omega,fun x=>by
   have:s<=k:=by omega
   simp[this]⟩
 | false=>
  simp at h⊢;exact⟨k+s,by omega,by omega,fun x=>by
   have:k+s<16:=by omega
   simp[this]⟩
theorem qpn {up:Bool}{s k:Nat}(hs:s<16)(hk:k<16)(h:¬ (0<=JM up s k/\JM up s k<16)):∀ x,shB up x s k=false:=by
 unfold JM qeN shB at *;intro x
 cases up with
 | true=>
  simp at h⊢;intro h1;omega
 | false=>
  simp at h⊢;intro h1;omega
theorem Ky {d:List Nd}(h:DagOk d)(n:Nat):qZ d ((List.range 16).map fun k=>if n.testBit k=true then 1 else 0):=⟨by simp,fun i hi=>by
 obtain⟨k,_,rfl⟩:=qqx.1 hi;have:=h.two;split<;>omega⟩
theorem qc8 {d:List Nd}(h:DagOk d)(b:Nat->Bool)(n:Nat){k:Nat}(hk:k<16):qn d b ((List.range 16).map fun k=>if n.testBit k=true then 1 else 0) k=n.testBit k:=by
 unfold qn;have:((List.range 16).map fun k=>if n.testBit k=true then 1 else 0).getD k 0=if n.testBit k=true then 1 else 0:=by
  rw[qqh,qqp,qso hk];rfl
 rw[this]
 cases n.testBit k with
 | true=>simpa using qc0 h b
 | false=>simpa using JN h b
theorem Z9 {d:List Nd}(h:DagOk d)(b:Nat->Bool){n:Nat}(hn:n<65536):zo (qn d b ((List.range 16).map fun k=>if n.testBit k=true then 1 else 0)) 16=n:=by
 rw[zq fun k hk=>qc8 h b n hk,Jm];exact qrJ hn
section
variable {c:Bc}{d:List Nd}{H:List Blk}{T:List (Option Nat)}
def qkM:List (Nat×Sch×List Nat):=[(5,.step 0 [5,4] (.step 1 [5,4] (.step 2 [5,4,3] (.step 3 [5,4] (.step 4 [5] (.step 5 [] (.done)))))),[4]),(11,.step 0 [13,12] (.step 1 [13,12,11] (.step 2 [13,12,11,4,3] (.step 3 [13,12,11,4] (.step 5 [13,12,11,10] (.step 6 [13,12,11,10] (.step 7 [13,12,11,10,9,8] (.step 8 [13,12,11,10,9] (.step 9 [13,12,11,10] (.fork (.cons 4 (.step 10 [13,12,11] (.step 11 [13,12] (.step 12 [13] (.step 13 [] (.done))))) (.cons 10 (.step 4 [13,12,11] (.step 11 [13,12] (.step 12 [13] (.step 13 [] (.done))))) (.nil)))))))))))),[10,11])]
theorem qdO (h:BX c H d H){X Y:List Nat}(hX:qZ d X)(hY:qZ d Y)(up:Bool) :
 qg Tryz.prog (XG c) 289 [.ptr c.B 0,.agg (qu X),.agg (qu Y),.int .i64 (qeN up)] ⟨H,T⟩ (BQ c d H fun b k=>decide (zo (qn d b Y) 16<16)&&shB up (qn d b X) (zo (qn d b Y) 16) k):=by
 refine qg.kO ⟨false,qkM,[],[]⟩ qe Tryz.func289 rfl (by kernel_rfl) ?_;have hXl:=hX.1;have hYl:=hY.1;have hk:∀ j,H.length<=j->j≠c.B:=fun j hj=>(h.at hj).1
 have hc0:=yb 0 (by omega);rw[qeO]at hc0;simp only[qrz]at hc0;simp[-getElem?_pos];refine qc.call hc0 (by simp) ?_;simp[-getElem?_pos,jy,zl (w:=zb) rfl (show (qu zb).length=16 from rfl),qO];refine kx 16 (fun s ev U=>ev 0=.ptr c.B 0/\ev 3=.int .i64 (qeN up)/\ev 5=.ptr H.length 0/\ev 6=.ptr (H.length+1) 0/\ev 8=.ptr (H.length+2) 0/\ev 9=.ptr (H.length+3) 0/\ev 15=.int .i64 (s:Int) /\
  ∃ d' S,BX c H d' U.H/\q9 d d'/\qZ d' S/\U.H[H.length]?=some (.cells (qu X))/\U.H[H.length+1]?=some (.cells (qu Y))/\U.H[H.length+2]?=some (.cells (qu zb))/\U.H[H.length+3]?=some (.cells (qu S)) /\
   ∀ b k,k<16->qn d' b S k=(decide (zo (qn d b Y) 16<s)&&shB up (qn d b X) (zo (qn d b Y) 16) k)) ?_ ?_ ?_
 . exact⟨by simp,by simp,by simp,by simp,by simp,by simp,by simp,d,zb,h.app _,q9.refl d,kI h.ok,lk0,lk1,lk2,lk3,fun b k hk=>by rw[yV h.ok];simp⟩
 . rintro s ev ⟨H1,T1⟩ R hR hs ⟨e0,e3,e5,e6,e8,e9,e15,d1,S,hx,hg,hS,hHX,hHY,hHZ,hHS,hb⟩;dsimp only at hx hHX hHY hHZ hHS;have hSl:=hS.1;have hs':(s:Int)<16:=(by omega);have hs1:s+1<=16:=hs;have hw:=wr (n:=(s:Int)+1) (by omega) (by omega);simp[-getElem?_pos,e15,hs'];rw[qG rfl];simp[-getElem?_pos,qM,e0,e6,hHY,hYl,qm hYl];refine qc.call (yb s (by omega)) (by simp) ?_;simp[-getElem?_pos,qM];refine qc.acall (VP hx.self (hY.grown hg) (Ky hx.ok s)) ?_;rintro v ⟨H2,T2⟩ ⟨d2,t,rfl,hxx2,hg2,ht,hv2⟩;dsimp only at hv2;have hx2':=hx.call hxx2;have up2:∀ {k:Nat} {x:Blk},H.length<=k->H1[k]?=some x->H2[k]?=some x:=fun {k x} hl hq=>hxx2.loc hq (hk k hl)
   have htv:∀ b,evD d2 b t=decide (zo (qn d b Y) 16=s):=fun b=>by
    rw[hv2,VR,Z9 hx.ok b (by omega),wl h.ok hg hY b]
   simp[-getElem?_pos,qM];refine kx 16 (fun i ev U=>ev 0=.ptr c.B 0/\ev 3=.int .i64 (qeN up)/\ev 5=.ptr H.length 0/\ev 6=.ptr (H.length+1) 0/\ev 8=.ptr (H.length+2) 0/\ev 9=.ptr (H.length+3) 0/\ev 10=.int .i64 (s:Int)/\ev 11=.int .i64 (t:Int)/\ev 15=.int .i64 (s:Int)/\ev 23=.int .i64 (i:Int) /\
    ∃ d' P,BX c H d' U.H/\q9 d2 d'/\qZ d' P/\U.H[H.length]?=some (.cells (qu X))/\U.H[H.length+1]?=some (.cells (qu Y))/\U.H[H.length+2]?=some (.cells (qu zb))/\U.H[H.length+3]?=some (.cells (qu P)) /\
     ∀ b k,k<16->qn d' b P k=(qn d1 b S k||(decide (k<i)&&(evD d2 b t&&shB up (qn d b X) s k)))) ?_ ?_ ?_
   . exact⟨by simp[e0],by simp[e3],by simp[e5],by simp[e6],by simp[e8],by simp[e9],by simp,by simp,by simp[e15],by simp,d2,S,hx2',q9.refl d2,hS.grown hg2,up2 (by omega) hHX,up2 (by omega) hHY,up2 (by omega) hHZ,up2 (by omega) hHS,fun b k hk=>by rw[zI hx.ok hg2 hS b hk];simp⟩
   . rintro i ev ⟨H3,T3⟩ R2 hR2 hi ⟨e0,e3,e5,e6,e8,e9,e10,e11,e15,e23,d3,P,hx3,hg3,hP,bX,bY,bZ,bS,hpb⟩;dsimp only at hx3 bX bY bZ bS;have hPl:=hP.1;have hg03:=hg.trans (hg2.trans hg3);have hi':(i:Int)<16:=(by omega);have hi1:i+1<=16:=hi;have hwi:=wr (n:=(i:Int)+1) (by omega) (by omega);have hdm : -16<qeN up*(s:Int)/\qeN up*(s:Int)<16:=(by unfold qeN;cases up<;>simp<;>omega);have hwm:=wr (n:=qeN up*(s:Int)) (by omega) (by omega);have hwf:=wr (n:=(i:Int)-qeN up*s) (by omega) (by omega);have hff:(i:Int)-qeN up*s=JM up s i:=rfl;rw[hff]at hwf;by_cases hrg:0<=JM up s i/\JM up s i<16
     . obtain⟨m,hm,hm16,hmx⟩:=qpm hs hi hrg;obtain⟨hrg1,hrg2⟩:=hrg;obtain⟨x,hx1,hx2,hx3'⟩:=hX.getG h.ok hg03 hm16;obtain⟨p,hp1,hp2,_,hp4⟩:=hP.get hi;have hdx:=zS hx1;have hdp:=zS hp1;have htl:t<d3.length:=qqn ht hg3.len;have hm1:m+1<=16:=hm16;have hm2:(m:Int)<16:=(by omega);have hm0:(0:Int)<=m:=(by omega);rw[hm]at hwf hrg1 hrg2;rw[hm]at hff;simp[-getElem?_pos,e3,e10,e23,hi',hwm,hff,hwf,hm2];rw[qG rfl];simp[-getElem?_pos,qM,e0,e5,e9,e11,hi',hi1,hm2,hm1,bX,bS,hXl,hPl,hdx,hdp];have key:=QH c hx3.self (f:=t) (g:=x) htl hx2 (T:=T3);refine⟨qc.acall key ?_,qc.acall key ?_⟩
       all_goals
        rintro v ⟨H4,T4⟩ ⟨d4,z,rfl,hxx4,hg4,hz,hv4⟩;dsimp only at hv4;have hx4':=hx3.call hxx4;have up4:∀ {k:Nat} {x:Blk},H.length<=k->H3[k]?=some x->H4[k]?=some x:=fun {k x} hl hq=>hxx4.loc hq (hk k hl)
        have cS:=up4 (by omega) bS;simp[-getElem?_pos,qM,hi1,cS,hPl,hdp];refine qc.acall (qaX c hx4'.self (f:=p) (g:=z) (qqn hp2 hg4.len) hz) ?_;rintro v ⟨H5,T5⟩ ⟨d5,y,rfl,hxx5,hg5,hy,hv5⟩;dsimp only at hv5;have hx5':=hx4'.call hxx5;have up5:∀ {k:Nat} {x:Blk},H.length<=k->H3[k]?=some x->H5[k]?=some x:=fun {k x} hl hq=>hxx5.loc (up4 hl hq) (hk k hl)
        have cS5:=up5 (by omega) bS;have hl5:=(qp5.1 cS5).1;simp[-getElem?_pos,qM,e9,e23,hi',hi1,cS5,hPl,yR,hwi];refine hR2 _ _ ⟨by simp[e0],by simp[e3],by simp[e5],by simp[e6],by simp[e8],by simp[e9],by simp[e10],by simp[e11],by simp[e15],by simp,d5,P.set i y,hx5'.set (by omega) _,hg3.trans (hg4.trans hg5),(hP.grown (hg4.trans hg5)).set hy,?_,?_,?_,qqa hl5,fun b k hk=>?_⟩
        . rw[qp7 (by omega)];exact up5 (by omega) bX
        . rw[qp7 (by omega)];exact up5 (by omega) bY
        . rw[qp7 (by omega)];exact up5 (by omega) bZ
        . rw[wF (by omega)];by_cases hki:k=i
          . subst hki;rw[if_pos rfl,hv5,hg4.ev hx3.ok b hp2,hv4,<- hp4,hpb b k hk,hg3.ev hx2'.ok b ht,hx3',hmx];simp
          . rw[if_neg hki,zI hx3.ok (hg4.trans hg5) hP b hk,hpb b k hk];by_cases h1:k<i
            . have h2:k<i+1:=(by omega);simp[h1,h2]
            . have h2:¬ k<i+1:=(by omega);simp[h1,h2]
     . have hno:=qpn hs hi hrg;have hcont:R2=R2:=rfl;have fin:∀ ev',ev' 0=.ptr c.B 0->ev' 3=.int .i64 (qeN up)->ev' 5=.ptr H.length 0->ev' 6=.ptr (H.length+1) 0->ev' 8=.ptr (H.length+2) 0->ev' 9=.ptr (H.length+3) 0->ev' 10=.int .i64 (s:Int)->ev' 11=.int .i64 (t:Int)->ev' 15=.int .i64 (s:Int)->ev' 23=.int .i64 (((i+1:Nat)):Int)->R2 ev' ⟨H3,T3⟩:=fun ev' a0 a3 a5 a6 a8 a9 a10 a11 a15 a23=>
        hR2 _ _ ⟨a0,a3,a5,a6,a8,a9,a10,a11,a15,a23,d3,P,hx3,hg3,hP,bX,bY,bZ,bS,fun b k hk=>by
         rw[hpb b k hk];by_cases hki:k=i
         . subst hki;rw[hno];simp
         . by_cases h1:k<i
           . have h2:k<i+1:=(by omega);simp[h1,h2]
           . have h2:¬ k<i+1:=(by omega);simp[h1,h2]⟩
       by_cases h0:0<=JM up s i
       . have h16:¬ JM up s i<16:=fun h=>hrg ⟨h0,h⟩
         simp[-getElem?_pos,e3,e10,e23,hi',hwm,hff,hwf,h0,h16,hwi];exact fin _ (by simp[e0]) (by simp[e3]) (by simp[e5]) (by simp[e6]) (by simp[e8]) (by simp[e9]) (by simp[e10]) (by simp[e11]) (by simp[e15]) (by simp)
       . simp[-getElem?_pos,e3,e10,e23,hi',hwm,hff,hwf,h0,hwi];exact fin _ (by simp[e0]) (by simp[e3]) (by simp[e5]) (by simp[e6]) (by simp[e8]) (by simp[e9]) (by simp[e10]) (by simp[e11]) (by simp[e15]) (by simp)
   . rintro ev ⟨H3,T3⟩ ⟨e0,e3,e5,e6,e8,e9,e10,e11,e15,e23,d3,P,hx3,hg3,hP,bX,bY,bZ,bS,hpb⟩;simp[-getElem?_pos,e15,e23,hw];refine hR _ _ ⟨by simp[e0],by simp[e3],by simp[e5],by simp[e6],by simp[e8],by simp[e9],by simp,d3,P,hx3,hg.trans (hg2.trans hg3),hP,bX,bY,bZ,bS,fun b k hk=>?_⟩;rw[hpb b k hk,hb b k hk,htv b];by_cases h1:zo (qn d b Y) 16=s
     . rw[h1];simp[hk]
     . by_cases h2:zo (qn d b Y) 16<s
       . have h3:zo (qn d b Y) 16<s+1:=(by omega);simp[h1,h2,h3]
       . have h3:¬ zo (qn d b Y) 16<s+1:=(by omega);simp[h1,h2,h3]
 . rintro ev ⟨H1,T1⟩ ⟨e0,e3,e5,e6,e8,e9,e15,d1,S,hx,hg,hS,hHX,hHY,hHZ,hHS,hb⟩;dsimp only at hx hHX hHY hHZ hHS;have hSl:=hS.1;have hHl:=(qp5.1 hHZ).1;simp[-getElem?_pos,e8,e9,e15,hHS,hHZ,hSl,qm hSl,zl hSl (show (qu zb).length=16 from rfl),qO,hHl];exact⟨d1,S,rfl,hx.set (by omega) _,hg,hS,hb⟩
end
end
section
def qnk (x:Nat):List Nat->Bool
 | a::b::r=>(decide (a<=x)&&decide (x<=b))||qnk x r
 | _=>false
theorem Kk {Ws:List (List Nat)}(h:∀ w∈Ws,w.length=16):(Ws.flatMap qu).length=Ws.length*16:=by
 induction Ws with
 | nil=>rfl
 | cons a r ih=>rw[qqs,qqb,jt,h a (by simp),ih fun w hw=>h w (by simp[hw]),qqm];omega
theorem qbF:∀ {Ws:List (List Nat)} {i:Nat} {w:List Nat},(∀ w∈Ws,w.length=16)->Ws[i]?=some w->((Ws.flatMap qu).drop (i*16)).take 16=qu w
 | [],i,w,_,hw=>by simp at hw
 | a::r,0,w,h,hw=>by
  simp at hw;subst hw;have ha:=h a (by simp);rw[qqs,qrG,qrB,qq3 (by rw[jt,ha];exact qqf _),qm ha]
 | a::r,i+1,w,h,hw=>by
  have ha:=h a (by simp);have hal:(qu a).length=16:=by rw[jt,ha]
  have ih:=qbF (Ws:=r) (i:=i) (w:=w) (fun w hw=>h w (by simp[hw])) (by simpa using hw);have e:(i+1)*16=16+i*16:=by omega
  rw[qqs,e,qrK,qqL (by omega),hal,qqw,qq2,ih]
section
variable {c:Bc}{d:List Nd}{H:List Blk}{T:List (Option Nat)}
def qkT:List (Nat×Sch×List Nat):=[(5,.step 0 [9,8] (.step 1 [9,8,7] (.step 2 [9,8,7] (.step 3 [9,8,7,6,5] (.step 4 [9,8,7,6,5] (.step 5 [9,8,7,6] (.step 6 [9,8,7] (.step 7 [9,8] (.step 8 [9] (.step 9 [] (.done)))))))))),[7,8]),(6,.step 0 [10,9] (.step 1 [10,9,8] (.step 2 [10,9,8,6,5] (.step 3 [10,9,8,6,5,4] (.step 4 [10,9,8,6,5] (.step 5 [10,9,8,6] (.step 6 [10,9,8] (.step 7 [10,9,8] (.step 8 [10,9] (.step 9 [10] (.step 10 [] (.done))))))))))),[8,9])]
theorem qir (h:BX c H d H){X:List Nat}(hX:qZ d X){A:Nat}{V:List Nat}{Ws:List (List Nat)}(hV:V.length=16)(hWs:∀ w∈Ws,qZ d w)(hA:H[A]?=some (.cells (qu V++Ws.flatMap qu)))(hAB:A≠c.B)(hn:Ws.length<=1000) :
 qg Tryz.prog (XG c) 237 [.ptr c.B 0,.agg (qu X),.ms A 16 Ws.length 16] ⟨H,T⟩ (NQ c d H fun b=>qnk (zo (qn d b X) 16) (Ws.map fun w=>zo (qn d b w) 16)):=by
 refine qg.kO ⟨false,qkT,[],[]⟩ qe Tryz.func237 rfl (by kernel_rfl) ?_;have hXl:=hX.1;have hk:∀ j,H.length<=j->j≠c.B:=fun j hj=>(h.at hj).1
 have hAl:=(qp5.1 hA).1;have hW16:∀ w∈Ws,w.length=16:=fun w hw=>(hWs w hw).1
 have hCl:(qu V++Ws.flatMap qu).length=16+Ws.length*16:=by rw[qqb,jt,hV,Kk hW16]
 have hcut:∀ {i:Nat} {w:List Nat},Ws[i]?=some w->((qu V++Ws.flatMap qu).drop (16+i*16)).take 16=qu w:=fun {i w} hw=>by
  have hv:(qu V).length=16:=by rw[jt,hV]
  rw[qrK,qqL (by omega),qqw,hv,qq2];exact qbF hW16 hw
 have hVal:∀ {d':List Nd} {w:List Nat},q9 d d'->w∈Ws->∀ b,zo (qn d' b w) 16=zo (qn d b w) 16:=fun {d' w} hg hw b=>wl h.ok hg (hWs w hw) b
 generalize hC:qu V++Ws.flatMap qu=C at *;simp[-getElem?_pos,jP];refine qL.gen (fun n ev U=>ev 0=.ptr c.B 0/\ev 2=.ms A 16 Ws.length 16/\ev 4=.ptr H.length 0 /\
  ∃ i d' t,n=Ws.length+1-i/\i<=Ws.length/\ev 8=.int .i64 (i:Int)/\ev 7=.int .i64 (t:Nat)/\BX c H d' U.H/\q9 d d'/\t<d'.length/\U.H[H.length]?=some (.cells (qu X))/\U.H[A]?=some (.cells C) /\
   ∀ b,(evD d' b t||qnk (zo (qn d b X) 16) ((Ws.drop i).map fun w=>zo (qn d b w) 16))=qnk (zo (qn d b X) 16) (Ws.map fun w=>zo (qn d b w) 16)) (Ws.length+1) ?_ ?_
 . exact⟨by simp,by simp,by simp,0,d,0,rfl,by omega,by simp,by simp,h.app _,q9.refl d,by have:=h.ok.two;omega,lk0,qa hA _,fun b=>by rw[JN h.ok];simp⟩
 . rintro n ev ⟨H1,T1⟩ R hR ⟨e0,e2,e4,i,d1,t,rfl,hi,e8,e7,hx,hg,ht,bX,bA,hv⟩;dsimp only at hx bX bA;have hw1:=wr (n:=(i:Int)+1) (by omega) (by omega);have hw2:=wr (n:=(i:Int)+2) (by omega) (by omega);by_cases hlt:i+1<Ws.length
   . have hlt':(i:Int)+1<Ws.length:=(by omega);have hi1:i<Ws.length:=(by omega);obtain⟨w0,hw0⟩:∃ w,Ws[i]?=some w:=⟨_,qp8 hi1⟩;obtain⟨w1,hw1'⟩:∃ w,Ws[i+1]?=some w:=⟨_,qp8 hlt⟩;have m0:=qp6 hw0;have m1:=qp6 hw1';have c0:=hcut hw0;have c1:=hcut hw1';have b0:16+i*16+16<=C.length:=(by rw[hCl];omega);have b1:16+(i+1)*16+16<=C.length:=(by rw[hCl];omega);have hi0':(i:Int)<Ws.length:=(by omega);have hi1n:(0:Int)<=(i:Int)+1:=(by omega);have htn:((i:Int)+1).toNat=i+1:=(by omega);rw[hCl]at b0 b1;have hdrop:Ws.drop i=w0::w1::Ws.drop (i+2):=by
      rw[qqt hi1,qqt hlt];obtain⟨_,q0⟩:=qp5.1 hw0;obtain⟨_,q1⟩:=qp5.1 hw1';rw[q0,q1]
     simp[-getElem?_pos,e0,e2,e4,e7,e8,hw1,hlt'];rw[qG rfl];simp[-getElem?_pos,qM,e0,e2,e4,e7,e8,hw1,hlt',hi0',hi1,bX,bA,hXl,qm hXl,hCl,b0,c0];refine qc.acall (VB hx.self (hX.grown hg) ((hWs w0 m0).grown hg)) ?_;rintro v ⟨H2,T2⟩ ⟨d2,y2,rfl,hxx2,hg2,hy2,hv2⟩;dsimp only at hv2;have hx2:=hx.call hxx2;simp[-getElem?_pos,qM,e0,e2,e4,e7,e8];refine qc.acall (QF c hx2.self hy2) ?_;rintro v ⟨H3,T3⟩ ⟨d3,y3,rfl,hxx3,hg3,hy3,hv3⟩;dsimp only at hv3;have hx3:=hx2.call hxx3;have cX:=hxx3.loc (hxx2.loc bX (hk _ (qqf _))) (hk _ (qqf _));have cA:=hxx3.loc (hxx2.loc bA hAB) hAB;dsimp only at cX cA;have hg23:=hg2.trans hg3;have hg03:=hg.trans hg23;simp[-getElem?_pos,e0,e2,e4,e7,e8];rw[qG rfl];simp[-getElem?_pos,qM,e0,e2,e4,e7,e8,hw1,hlt',hi1n,htn,hlt,cX,cA,hXl,qm hXl,hCl,b1,c1];refine qc.acall (VB hx3.self ((hWs w1 m1).grown hg03) (hX.grown hg03)) ?_;rintro v ⟨H4,T4⟩ ⟨d4,y4,rfl,hxx4,hg4,hy4,hv4⟩;dsimp only at hv4;have hx4:=hx3.call hxx4;simp[-getElem?_pos,qM,e0,e2,e4,e7,e8];refine qc.acall (QF c hx4.self hy4) ?_;rintro v ⟨H5,T5⟩ ⟨d5,y5,rfl,hxx5,hg5,hy5,hv5⟩;dsimp only at hv5;have hx5:=hx4.call hxx5;simp[-getElem?_pos,qM,e0,e2,e4,e7,e8];have hg35:=hg4.trans hg5;refine qc.acall (QH c hx5.self (f:=y3) (g:=y5) (qqn hy3 hg35.len) hy5) ?_;rintro v ⟨H6,T6⟩ ⟨d6,y6,rfl,hxx6,hg6,hy6,hv6⟩;dsimp only at hv6;have hx6:=hx5.call hxx6;simp[-getElem?_pos,qM,e0,e2,e4,e7,e8];have hg16:=hg23.trans (hg35.trans hg6);refine qc.acall (qaX c hx6.self (f:=t) (g:=y6) (qqn ht hg16.len) hy6) ?_;rintro v ⟨H7,T7⟩ ⟨d7,y7,rfl,hxx7,hg7,hy7,hv7⟩;dsimp only at hv7;have hx7:=hx6.call hxx7;have up:∀ {k:Nat} {x:Blk},k≠c.B->H3[k]?=some x->H7[k]?=some x:=fun {k x} hl hq=>hxx7.loc (hxx6.loc (hxx5.loc (hxx4.loc hq hl) hl) hl) hl
     simp[-getElem?_pos,qM,e0,e2,e4,e7,e8,hw2];refine hR (Ws.length+1-(i+2)) _ _ (by omega) ⟨by simp[e0],by simp[e2],by simp[e4],i+2,d7,y7,rfl,by omega,by simp,by simp,hx7,hg.trans (hg16.trans hg7),hy7,up (hk _ (qqf _)) cX,up hAB cA,fun b=>?_⟩;rw[<- hv b,hdrop];simp only[qqk,qnk];have hXv:∀ {d'},q9 d d'->zo (qn d' b X) 16=zo (qn d b X) 16:=fun hg'=>wl h.ok hg' hX b
     rw[hv7,hg16.ev hx.ok b ht,hv6,hg35.ev hx3.ok b hy3,hv3,hv2,Ql,hXv hg,hVal hg m0 b,hv5,hv4,Ql,hXv hg03,hVal hg03 m1 b];generalize zo (qn d b X) 16=vx;generalize zo (qn d b w0) 16=v0;generalize zo (qn d b w1) 16=v1;have q0:(!decide (vx<v0))=decide (v0<=vx):=(by rw[qq1];simp);have q1:(!decide (v1<vx))=decide (vx<=v1):=(by rw[qq1];simp);rw[q0,q1,Bool.or_assoc]
   . have hlt':¬ (i:Int)+1<Ws.length:=(by omega);simp[-getElem?_pos,e0,e2,e4,e7,e8,hw1,hlt'];refine⟨d1,t,rfl,hx,hg,ht,fun b=>?_⟩;refine Eq.trans ?_ (hv b);have:qnk (zo (qn d b X) 16) ((Ws.drop i).map fun w=>zo (qn d b w) 16)=false:=by
      have hl:((Ws.drop i).map fun w=>zo (qn d b w) 16).length<=1:=(by simp;omega);generalize ((Ws.drop i).map fun w=>zo (qn d b w) 16)=l at hl
      match l,hl with
      | [],_=>rfl
      | [_],_=>rfl
     rw[this,Bool.or_false]
end
end
section
theorem Vn {d:List Nd}(h:DagOk d)(b:Nat->Bool)(n:Nat):zU d b (n::List.replicate 15 0)=b2i (evD d b n):=by
 unfold zU;rw[zq fun k _=>qec h b n k,qhW]
section
variable {c:Bc}{d:List Nd}{H:List Blk}{T:List (Option Nat)}
theorem qlp (h:BX c H d H){X Y:List Nat}(hX:qZ d X)(hY:qZ d Y)(op:Int) :
 qg Tryz.prog (XG c) 290 [.ptr c.B 0,.int .i64 op,.agg (qu X),.agg (qu Y)] ⟨H,T⟩ (WQ c d H fun b=>b2i (if op=19 then ZG (qn d b X) 16&&ZG (qn d b Y) 16 else if op=20 then ZG (qn d b X) 16||ZG (qn d b Y) 16 else !ZG (qn d b X) 16||ZG (qn d b Y) 16)):=by
 refine qg.k qe Tryz.func290 rfl (by kernel_rfl) ?_;have hXl:=hX.1;have hYl:=hY.1;have hk:∀ j,H.length<=j->j≠c.B:=fun j hj=>(h.at hj).1
 simp[-getElem?_pos,jP,jy];have hx1:=h.app [.cells (qu X),.cells (qu Y),.cells (qu zb)];have bX:(H++[Blk.cells (qu X),.cells (qu Y),.cells (qu zb)])[H.length]?=some (.cells (qu X)):=lk0;have bY:(H++[Blk.cells (qu X),.cells (qu Y),.cells (qu zb)])[H.length+1]?=some (.cells (qu Y)):=lk1;have bZ:(H++[Blk.cells (qu X),.cells (qu Y),.cells (qu zb)])[H.length+2]?=some (.cells (qu zb)):=lk2;generalize H++[Blk.cells (qu X),.cells (qu Y),.cells (qu zb)]=H1 at *;simp[-getElem?_pos,bX,hXl,qm hXl];refine qc.acall (Qd hx1.self hX) ?_;rintro v ⟨H2,T2⟩ ⟨d2,s,rfl,hxx2,hg2,hs,hv2⟩;dsimp only at hv2;have hx2:=hx1.call hxx2;have cY:=hxx2.loc bY (hk _ (by omega));have cZ:=hxx2.loc bZ (hk _ (by omega));dsimp only at cY cZ;simp[-getElem?_pos,cY,hYl,qm hYl];refine qc.acall (Qd hx2.self (hY.grown hg2)) ?_;rintro v ⟨H3,T3⟩ ⟨d3,t,rfl,hxx3,hg3,ht,hv3⟩;dsimp only at hv3;have hx3:=hx2.call hxx3;have eZ:=hxx3.loc cZ (hk _ (by omega));dsimp only at eZ;have hs3:s<d3.length:=qqn hs hg3.len;have hs3v:∀ b,evD d3 b s=ZG (qn d b X) 16:=fun b=>by rw[hg3.ev hx2.ok b hs,hv2]
 have ht3v:∀ b,evD d3 b t=ZG (qn d b Y) 16:=fun b=>by
  rw[hv3,ZF,ZF,wl h.ok hg2 hY b]
 have hg03:=hg2.trans hg3;have fin:∀ {H4:List Blk} {d4:List Nd} {u:Nat} {τ:St} {v:(Nat->Bool)->Bool},τ.H=H4.set (H.length+2) (.cells (qu (u::List.replicate 15 0)))->BX c H d4 H4->q9 d3 d4->u<d4.length->(∀ b,evD d4 b u=v b)->WQ c d H (fun b=>b2i (v b)) (.agg (qu (u::List.replicate 15 0))) τ:=fun {H4 d4 u τ v} hτ hx4 hg4 hu hv=>by
  refine⟨d4,_,rfl,?_,hg03.trans hg4,qa0 hx4.ok hu,fun b=>by rw[Vn hx4.ok,hv]⟩;rw[hτ];exact hx4.set (by omega) _
 have cut1:∀ (u:Nat),(qu (u::List.replicate 15 0)).take 16=qu (u::List.replicate 15 0):=fun u=>qm rfl
 have put1:∀ (u:Nat),zt (qu zb) 0 (qu (u::List.replicate 15 0))=qu (u::List.replicate 15 0):=fun u=>zl rfl rfl
 simp only[List.reduceReplicate]at fin cut1 put1;by_cases h19:op=19
 . simp[-getElem?_pos,h19];refine qc.acall (QH c hx3.self (f:=s) (g:=t) hs3 ht) ?_;rintro v ⟨H4,T4⟩ ⟨d4,u,rfl,hxx4,hg4,hu,hv4⟩;dsimp only at hv4;have gZ:=hxx4.loc eZ (hk _ (by omega));have hl:=(qp5.1 gZ).1;dsimp only at gZ hl;simp[-getElem?_pos];refine qc.call (jd u) (by simp) ?_;simp[-getElem?_pos,gZ,qO,put1,hl,cut1];exact fin rfl (hx3.call hxx4) hg4 hu fun b=>by rw[hv4,hs3v,ht3v]
 by_cases h20:op=20
 . simp[-getElem?_pos,h19,h20];refine qc.acall (qaX c hx3.self (f:=s) (g:=t) hs3 ht) ?_;rintro v ⟨H4,T4⟩ ⟨d4,u,rfl,hxx4,hg4,hu,hv4⟩;dsimp only at hv4;have gZ:=hxx4.loc eZ (hk _ (by omega));have hl:=(qp5.1 gZ).1;dsimp only at gZ hl;simp[-getElem?_pos];refine qc.call (jd u) (by simp) ?_;simp[-getElem?_pos,gZ,qO,put1,hl,cut1];exact fin rfl (hx3.call hxx4) hg4 hu fun b=>by rw[hv4,hs3v,ht3v]
 . simp[-getElem?_pos,h19,h20];refine qc.acall (QF c hx3.self hs3) ?_;rintro v ⟨H4,T4⟩ ⟨d4,q,rfl,hxx4,hg4,hq,hv4⟩;dsimp only at hv4;have hx4:=hx3.call hxx4;simp[-getElem?_pos];refine qc.acall (qaX c hx4.self (f:=q) (g:=t) hq (qqn ht hg4.len)) ?_;rintro v ⟨H5,T5⟩ ⟨d5,u,rfl,hxx5,hg5,hu,hv5⟩;dsimp only at hv5;have gZ:=hxx5.loc (hxx4.loc eZ (hk _ (by omega))) (hk _ (by omega));have hl:=(qp5.1 gZ).1;dsimp only at gZ hl;simp[-getElem?_pos];refine qc.call (jd u) (by simp) ?_;simp[-getElem?_pos,gZ,qO,put1,hl,cut1];exact fin rfl (hx4.call hxx5) (hg4.trans hg5) hu fun b=>by rw[hv5,hv4,hs3v,hg4.ev hx3.ok b ht,ht3v]
end
end
section
def cmpW (op a b:Int):Int:=if op=15 then b2i (decide (a=b)) else if op=16 then b2i (!decide (a=b)) else if op=17 then b2i (decide (a<b)) else b2i (decide (a<=b))
section
variable {c:Bc}{d:List Nd}{H:List Blk}{T:List (Option Nat)}
theorem qnu {d:List Nd}{b:Nat->Bool}{X Y:List Nat}:eqT (qn d b X) (qn d b Y) 16=decide (zU d b X=zU d b Y):=by
 rw[VR,qq1,decide_eq_true_iff,decide_eq_true_iff];unfold zU;omega
theorem qel {d:List Nd}{b:Nat->Bool}{X Y:List Nat}:qcI (qn d b X) (qn d b Y) 16=decide (zU d b X<zU d b Y):=by
 rw[Ql,qq1,decide_eq_true_iff,decide_eq_true_iff];unfold zU;omega
theorem VX (h:BX c H d H){X Y:List Nat}(hX:qZ d X)(hY:qZ d Y)(op:Int) :
 qg Tryz.prog (XG c) 291 [.ptr c.B 0,.int .i64 op,.agg (qu X),.agg (qu Y)] ⟨H,T⟩ (WQ c d H fun b=>cmpW op (zU d b X) (zU d b Y)):=by
 refine qg.k qe Tryz.func291 rfl (by kernel_rfl) ?_;have hXl:=hX.1;have hYl:=hY.1;have hk:∀ j,H.length<=j->j≠c.B:=fun j hj=>(h.at hj).1
 simp[-getElem?_pos,jy];have hx1:=h.app [.cells (qu X),.cells (qu Y),.cells (qu zb)];have bX:(H++[Blk.cells (qu X),.cells (qu Y),.cells (qu zb)])[H.length]?=some (.cells (qu X)):=lk0;have bY:(H++[Blk.cells (qu X),.cells (qu Y),.cells (qu zb)])[H.length+1]?=some (.cells (qu Y)):=lk1;have bZ:(H++[Blk.cells (qu X),.cells (qu Y),.cells (qu zb)])[H.length+2]?=some (.cells (qu zb)):=lk2;generalize H++[Blk.cells (qu X),.cells (qu Y),.cells (qu zb)]=H1 at *;have fin:∀ {H4:List Blk} {d4:List Nd} {u:Nat} {τ:St} {v:(Nat->Bool)->Int},τ.H=H4.set (H.length+2) (.cells (qu (u::List.replicate 15 0)))->BX c H d4 H4->q9 d d4->u<d4.length->(∀ b,b2i (evD d4 b u)=v b)->WQ c d H v (.agg (qu (u::List.replicate 15 0))) τ:=fun {H4 d4 u τ v} hτ hx4 hg4 hu hv=>by
  refine⟨d4,_,rfl,?_,hg4,qa0 hx4.ok hu,fun b=>by rw[Vn hx4.ok,hv]⟩;rw[hτ];exact hx4.set (by omega) _
 have cut1:∀ (u:Nat),(qu (u::List.replicate 15 0)).take 16=qu (u::List.replicate 15 0):=fun u=>qm rfl
 have put1:∀ (u:Nat),zt (qu zb) 0 (qu (u::List.replicate 15 0))=qu (u::List.replicate 15 0):=fun u=>zl rfl rfl
 simp only[List.reduceReplicate]at fin cut1 put1;by_cases h15:op=15
 . simp[-getElem?_pos,h15,bX,bY,hXl,hYl,qm hXl,qm hYl];refine qc.acall (VP hx1.self hX hY) ?_;rintro v ⟨H4,T4⟩ ⟨d4,u,rfl,hxx4,hg4,hu,hv4⟩;dsimp only at hv4;have gZ:=hxx4.loc bZ (hk _ (by omega));have hl:=(qp5.1 gZ).1;dsimp only at gZ hl;simp[-getElem?_pos];refine qc.call (jd u) (by simp) ?_;simp[-getElem?_pos,gZ,qO,put1,hl,cut1];exact fin rfl (hx1.call hxx4) hg4 hu fun b=>by rw[hv4,qnu];rfl
 by_cases h16:op=16
 . simp[-getElem?_pos,h16,bX,bY,hXl,hYl,qm hXl,qm hYl];refine qc.acall (VP hx1.self hX hY) ?_;rintro v ⟨H4,T4⟩ ⟨d4,u,rfl,hxx4,hg4,hu,hv4⟩;dsimp only at hv4;have hx4:=hx1.call hxx4;simp[-getElem?_pos];refine qc.acall (QF c hx4.self hu) ?_;rintro v ⟨H5,T5⟩ ⟨d5,u5,rfl,hxx5,hg5,hu5,hv5⟩;dsimp only at hv5;have gZ:=hxx5.loc (hxx4.loc bZ (hk _ (by omega))) (hk _ (by omega));have hl:=(qp5.1 gZ).1;dsimp only at gZ hl;simp[-getElem?_pos];refine qc.call (jd u5) (by simp) ?_;simp[-getElem?_pos,gZ,qO,put1,hl,cut1];exact fin rfl (hx4.call hxx5) (hg4.trans hg5) hu5 fun b=>by rw[hv5,hv4,qnu];rfl
 by_cases h17:op=17
 . simp[-getElem?_pos,h17,bX,bY,hXl,hYl,qm hXl,qm hYl];refine qc.acall (VB hx1.self hX hY) ?_;rintro v ⟨H4,T4⟩ ⟨d4,u,rfl,hxx4,hg4,hu,hv4⟩;dsimp only at hv4;have gZ:=hxx4.loc bZ (hk _ (by omega));have hl:=(qp5.1 gZ).1;dsimp only at gZ hl;simp[-getElem?_pos];refine qc.call (jd u) (by simp) ?_;simp[-getElem?_pos,gZ,qO,put1,hl,cut1];exact fin rfl (hx1.call hxx4) hg4 hu fun b=>by rw[hv4,qel];rfl
 . simp[-getElem?_pos,h15,h16,h17,bX,bY,hXl,hYl,qm hXl,qm hYl];refine qc.acall (VB hx1.self hY hX) ?_;rintro v ⟨H4,T4⟩ ⟨d4,u,rfl,hxx4,hg4,hu,hv4⟩;dsimp only at hv4;have hx4:=hx1.call hxx4;simp[-getElem?_pos];refine qc.acall (QF c hx4.self hu) ?_;rintro v ⟨H5,T5⟩ ⟨d5,u5,rfl,hxx5,hg5,hu5,hv5⟩;dsimp only at hv5;have gZ:=hxx5.loc (hxx4.loc bZ (hk _ (by omega))) (hk _ (by omega));have hl:=(qp5.1 gZ).1;dsimp only at gZ hl;simp[-getElem?_pos];refine qc.call (jd u5) (by simp) ?_;simp[-getElem?_pos,gZ,qO,put1,hl,cut1];exact fin rfl (hx4.call hxx5) (hg4.trans hg5) hu5 fun b=>by
    rw[hv5,hv4,qel];unfold cmpW;rw[if_neg h15,if_neg h16,if_neg h17];congr 1;rw[qq1];simp
theorem qcE {d2:List Nd}{b:Nat->Bool}{V:List Nat}{x y:Nat->Bool}{ci:Bool}(h:∀ k,k<16->qn d2 b V k=qmT x y ci k):zU d2 b V=(((zo x 16+zo y 16+b2n ci) % 2 ^ 16:Nat):Int):=by
 unfold zU;rw[zq h,<- kL];rfl
theorem qoQ {d d2:List Nd}{b:Nat->Bool}{V X Y:List Nat}(h:∀ k,k<16->qn d2 b V k=(decide (zo (qn d b Y) 16<16)&&shB true (qn d b X) (zo (qn d b Y) 16) k)):zU d2 b V=yL 13 (zU d b X) (zU d b Y):=by
 have e:yL 13 (zU d b X) (zU d b Y)=if 0<=zU d b Y/\zU d b Y<16 then qN (zU d b X*2 ^ (zU d b Y).toNat) else 0:=by simp[yL]
 rw[e];by_cases hs:zo (qn d b Y) 16<16
 . rw[if_pos ⟨by unfold zU;omega,by unfold zU;omega⟩];have:zU d2 b V=((zo (qn d b X) 16*2 ^ zo (qn d b Y) 16 % 2 ^ 16:Nat):Int):=by
    unfold zU;rw[<- qg3,zq fun k hk=>by rw[h k hk,decide_eq_true hs,qrm,shB,if_pos rfl]]
   rw[this,w_shl];rfl
 . rw[if_neg (by unfold zU;omega)];unfold zU;rw[kc fun k hk=>by rw[h k hk,decide_eq_false hs];rfl];rfl
theorem qoP {d d2:List Nd}{b:Nat->Bool}{V X Y:List Nat}(h:∀ k,k<16->qn d2 b V k=(decide (zo (qn d b Y) 16<16)&&shB false (qn d b X) (zo (qn d b Y) 16) k)):zU d2 b V=yL 14 (zU d b X) (zU d b Y):=by
 have e:yL 14 (zU d b X) (zU d b Y)=if 0<=zU d b Y/\zU d b Y<16 then qN (zU d b X) / 2 ^ (zU d b Y).toNat else 0:=by simp[yL]
 rw[e];by_cases hs:zo (qn d b Y) 16<16
 . rw[if_pos ⟨by unfold zU;omega,by unfold zU;omega⟩];have:zU d2 b V=((zo (qn d b X) 16 / 2 ^ zo (qn d b Y) 16:Nat):Int):=by
    unfold zU;rw[<- qg4,zq fun k hk=>by rw[h k hk,decide_eq_true hs,qrm,shB,if_neg (by simp)]]
   rw[this,w_shr];rfl
 . rw[if_neg (by unfold zU;omega)];unfold zU;rw[kc fun k hk=>by rw[h k hk,decide_eq_false hs];rfl];rfl
theorem qjv (h:BX c H d H){X Y:List Nat}(hX:qZ d X)(hY:qZ d Y){op:Int}(h7:7<=op)(h21:op<=21) :
 qg Tryz.prog (XG c) 241 [.ptr c.B 0,.int .i64 op,.agg (qu X),.agg (qu Y)] ⟨H,T⟩ (WQ c d H fun b=>yL op (zU d b X) (zU d b Y)):=by
 refine qg.k qe Tryz.func241 rfl (by kernel_rfl) ?_;have hXl:=hX.1;have hYl:=hY.1;have hk:∀ j,H.length<=j->j≠c.B:=fun j hj=>(h.at hj).1
 simp[-getElem?_pos,jy];have hx1:=h.app [.cells (qu X),.cells (qu Y),.cells (qu zb)];have bX:(H++[Blk.cells (qu X),.cells (qu Y),.cells (qu zb)])[H.length]?=some (.cells (qu X)):=lk0;have bY:(H++[Blk.cells (qu X),.cells (qu Y),.cells (qu zb)])[H.length+1]?=some (.cells (qu Y)):=lk1;have bZ:(H++[Blk.cells (qu X),.cells (qu Y),.cells (qu zb)])[H.length+2]?=some (.cells (qu zb)):=lk2;generalize H++[Blk.cells (qu X),.cells (qu Y),.cells (qu zb)]=H1 at *;have fin:∀ {H4:List Blk} {d4:List Nd} {V:List Nat} {τ:St} {v:(Nat->Bool)->Int},τ.H=H4.set (H.length+2) (.cells (qu V))->BX c H d4 H4->q9 d d4->qZ d4 V->(∀ b,zU d4 b V=v b)->WQ c d H v (.agg (qu V)) τ:=fun {H4 d4 V τ v} hτ hx4 hg4 hV hv=>by
  refine⟨d4,_,rfl,?_,hg4,hV,hv⟩;rw[hτ];exact hx4.set (by omega) _
 have ht:=h.ok.two;have t0:∀ op T,15<=op/\op<=18->qg Tryz.prog (XG c) 291 [.ptr c.B 0,.int .i64 op,.agg (qu X),.agg (qu Y)] ⟨H1,T⟩ (WQ c d H1 fun b=>yL op (zU d b X) (zU d b Y)):=fun op T ho=>by
  have:=VX hx1.self hX hY op (T:=T);have e:(fun b=>cmpW op (zU d b X) (zU d b Y))=fun b=>yL op (zU d b X) (zU d b Y):=by
   funext b;obtain rfl|rfl|rfl|rfl:op=15\/op=16\/op=17\/op=18:=by omega
   all_goals simp[cmpW,yL]
  rw[e]at this;exact this
 have t1:∀ op T,19<=op/\op<=21->qg Tryz.prog (XG c) 290 [.ptr c.B 0,.int .i64 op,.agg (qu X),.agg (qu Y)] ⟨H1,T⟩ (WQ c d H1 fun b=>yL op (zU d b X) (zU d b Y)):=fun op T ho=>by
  have:=qlp hx1.self hX hY op (T:=T);have e:(fun b=>b2i (if op=19 then ZG (qn d b X) 16&&ZG (qn d b Y) 16 else if op=20 then ZG (qn d b X) 16||ZG (qn d b Y) 16 else !ZG (qn d b X) 16||ZG (qn d b Y) 16))=fun b=>yL op (zU d b X) (zU d b Y):=by
   funext b;rw[vH,vH];obtain rfl|rfl|rfl:op=19\/op=20\/op=21:=by omega
   all_goals simp[yL,zU]
  rw[e]at this;exact this
 have k7:=(qdF hx1.self hX hY (cn:=0) (T:=T) (by omega)).imp (Q':=WQ c d H1 fun b=>yL 7 (zU d b X) (zU d b Y)) (fun v U ⟨d4,V,e,hx,hg,hV,hv⟩=>⟨d4,V,e,hx,hg,hV,fun b=>by
  rw[qcE (hv b),JN h.ok,<- kL,w_add];rfl⟩)
 have k8:=(Zz hx1.self hX hY (T:=T)).imp (Q':=WQ c d H1 fun b=>yL 8 (zU d b X) (zU d b Y)) (fun v U ⟨d4,V,e,hx,hg,hV,hv⟩=>⟨d4,V,e,hx,hg,hV,fun b=>by
  rw[qcE (hv b),<- kL,w_sub];rfl⟩)
 have k9:=(qfC hx1.self hX hY (T:=T)).imp (Q':=WQ c d H1 fun b=>yL 9 (zU d b X) (zU d b Y)) (fun v U ⟨d4,V,e,hx,hg,hV,hv⟩=>⟨d4,V,e,hx,hg,hV,fun b=>by
  have hvb:=hv b;dsimp only at hvb;unfold zU;rw[hvb,qa6,w_mul];rfl⟩)
 have k10:=(JW hx1.self hX hY (T:=T) (g:=285) (first:=[.ptr c.B 0]) (cap:=[]) (F:=fun _ p q=>p&&q) (fun d1 H1 T1 x y hx hg a b=>QH c hx.self a b)).imp (Q':=WQ c d H1 fun b=>yL 10 (zU d b X) (zU d b Y)) (fun v U ⟨d4,V,e,hx,hg,hV,hv⟩=>⟨d4,V,e,hx,hg,hV,fun b=>by
  unfold zU;rw[zq (hv b),qki];rfl⟩)
 have k11:=(JW hx1.self hX hY (T:=T) (g:=229) (first:=[.ptr c.B 0]) (cap:=[]) (F:=fun _ p q=>p||q) (fun d1 H1 T1 x y hx hg a b=>qaX c hx.self a b)).imp (Q':=WQ c d H1 fun b=>yL 11 (zU d b X) (zU d b Y)) (fun v U ⟨d4,V,e,hx,hg,hV,hv⟩=>⟨d4,V,e,hx,hg,hV,fun b=>by
  unfold zU;rw[zq (hv b),qn8];rfl⟩)
 have k12:=(JW hx1.self hX hY (T:=T) (g:=288) (first:=[.ptr c.B 0]) (cap:=[]) (F:=fun _ p q=>p ^^ q) (fun d1 H1 T1 x y hx hg a b=>qai c hx.self a b)).imp (Q':=WQ c d H1 fun b=>yL 12 (zU d b X) (zU d b Y)) (fun v U ⟨d4,V,e,hx,hg,hV,hv⟩=>⟨d4,V,e,hx,hg,hV,fun b=>by
  unfold zU;rw[zq (hv b),qkh];rfl⟩)
 have k13:=(qdO hx1.self hX hY true (T:=T)).imp (Q':=WQ c d H1 fun b=>yL 13 (zU d b X) (zU d b Y)) (fun v U ⟨d4,V,e,hx,hg,hV,hv⟩=>⟨d4,V,e,hx,hg,hV,fun b=>qoQ (hv b)⟩);have k14:=(qdO hx1.self hX hY false (T:=T)).imp (Q':=WQ c d H1 fun b=>yL 14 (zU d b X) (zU d b Y)) (fun v U ⟨d4,V,e,hx,hg,hV,hv⟩=>⟨d4,V,e,hx,hg,hV,fun b=>qoP (hv b)⟩);have k15:=t0 15 T (by omega);have k16:=t0 16 T (by omega);have k17:=t0 17 T (by omega);have k18:=t0 18 T (by omega);have k19:=t1 19 T (by omega);have k20:=t1 20 T (by omega);have k21:=t1 21 T (by omega);simp only[qrz,qeN,if_true,qqq,if_false]at k7 k13 k14;have hcases:op=7\/op=8\/op=9\/op=10\/op=11\/op=12\/op=13\/op=14\/op=15\/op=16\/op=17\/op=18\/op=19\/op=20\/op=21:=by omega
 rcases hcases with rfl|rfl|rfl|rfl|rfl|rfl|rfl|rfl|rfl|rfl|rfl|rfl|rfl|rfl|rfl
 all_goals
  simp[-getElem?_pos,bY,hXl,hYl,qm hXl,qm hYl];refine qc.acall (by assumption) ?_;rintro v ⟨H4,T4⟩ ⟨d4,V,rfl,hxx4,hg4,hV,hv4⟩;dsimp only at hv4;have gZ:=hxx4.loc bZ (hk _ (by omega));have hl:=(qp5.1 gZ).1;dsimp only at gZ hl;have hVl:=hV.1;simp[-getElem?_pos,gZ,qO,hVl,zl hVl (show (qu zb).length=16 from rfl),hl,qm hVl];exact fin rfl (hx1.call hxx4) hg4 hV hv4
end
end
end Go.Proofs.YtoibbcnfhhggnaaGreatDoor
end
