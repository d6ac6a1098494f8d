import Derived.Test.YtimecmegnocamaaGreatDoorPq26
set_option maxHeartbeats 16000000
set_option maxRecDepth 100000
set_option linter.all false
set_option linter.defProp false
namespace Go.Proofs.YtimecmegnocamaaGreatDoor
open Go Go.Abs Tryz
def shB(up:Bool)(x:Nat->Bool)(s k:Nat):Bool:=if up=true then decide (s<=k)&&x (k-s) else decide (k+s<16)&&x (k+s)
def qik(up:Bool):Int:=if up=true then 1 else -1
def Yn(up:Bool)(s k:Nat):Int:=(k:Int)-qik up*s
def qsu{up s k}(hs:s<16)(hk:k<16)(h:0<=Yn up s k/\Yn up s k<16):∃m:Nat,Yn up s k=m/\m<16/\∀x,shB up x s k=x m:=by
 unfold Yn qik shB at *
 cases up with
 | true=>
  simp at h⊢;exact⟨k-s,by omega,by omega,fun x=>by
   have:s<=k:=by omega
   simp[this]⟩
 | false=>
  simp at h⊢;exact⟨k+s,by omega,by omega,fun x=>by
   have:k+s<16:=by omega
   simp[this]⟩
def qsv{up s k}(hs:s<16)(hk:k<16)(h:¬(0<=Yn up s k/\Yn up s k<16)):∀x,shB up x s k=false:=by
 unfold Yn qik shB at *;intro x
 cases up with
 | true=>
  simp at h⊢;intro h1;omega
 | false=>
  simp at h⊢;intro h1;omega
def Wx{d}(h:DagOk d)(n:Nat):zd d ((List.range 16).map fun k=>if n.testBit k=true then 1 else 0):=⟨by simp,fun i hi=>by
 obtain⟨k,_,rfl⟩:=qBj.1 hi;have:=h.two;split<;>omega⟩
def qeR{d}(h:DagOk d)(b)(n:Nat){k}(hk:k<16):qu d b ((List.range 16).map fun k=>if n.testBit k=true then 1 else 0) k=n.testBit k:=by
 unfold qu;have:((List.range 16).map fun k=>if n.testBit k=true then 1 else 0).getD k 0=if n.testBit k=true then 1 else 0:=by
  rw[qA8,qBp,qEl hk];rfl
 rw[this]
 cases n.testBit k with
 |true=>simpa using qeN h b
 |false=>simpa using Yo h b
def JI{d}(h:DagOk d)(b){n}(hn:n<65536):zt (qu d b ((List.range 16).map fun k=>if n.testBit k=true then 1 else 0)) 16=n:=by
 rw[zw fun k hk=>qeR h b n hk,JV];exact qDe hn
section
variable {c:Bc}{d:List Nd}{H:List Blk}{T:List (Option Nat)}
def qnj:List (Nat×Sch×List Nat):=[(5,.step 0 [5,4] (.step 1 [5,4] (.step 2 [5,4,3] (.step 3 [5,4] (.step 4 [5] (.step 5 [] (.done)))))),[4]),(11,.step 0 [13,12] (.step 1 [13,12,11] (.step 2 [13,12,11,4,3] (.step 3 [13,12,11,4] (.step 5 [13,12,11,10] (.step 6 [13,12,11,10] (.step 7 [13,12,11,10,9,8] (.step 8 [13,12,11,10,9] (.step 9 [13,12,11,10] (.fork (.cons 4 (.step 10 [13,12,11] (.step 11 [13,12] (.step 12 [13] (.step 13 [] (.done))))) (.cons 10 (.step 4 [13,12,11] (.step 11 [13,12] (.step 12 [13] (.step 13 [] (.done))))) (.nil)))))))))))),[10,11])]
def qfA(h:BX c H d H){X Y}(hX:zd d X)(hY:zd d Y)(up):
 qj prog (XG c) 276 [.ptr c.B 0,.agg (qB X),.agg (qB Y),.int .i64 (qik up)] ⟨H,T⟩ (BQ c d H fun b k=>decide (zt (qu d b Y) 16<16)&&shB up (qu d b X) (zt (qu d b Y) 16) k):=by
 refine qFn ⟨false,qnj,[],[]⟩ qg func276 rfl (by kernel_rfl) ?_;have hXl:=hX.1;have hYl:=hY.1;have hk:∀j,H.length<=j->j≠c.B:=fun j hj=>(h.at hj).1
 have hc0:=yw 0 (by omega);rw[qgF]at hc0;simp at hc0;simp;refine qFp hc0 rfl ?_;simp[jI,zr (w:=zh) rfl (show(qB zh).length=16 from rfl),qW];refine kl 16 (fun s ev U=>ev 0=.ptr c.B 0/\ev 3=.int .i64 (qik up)/\ev 5=.ptr H.length 0/\ev 6=.ptr (H.length+1) 0/\ev 8=.ptr (H.length+2) 0/\ev 9=.ptr (H.length+3) 0/\ev 15=.int .i64 (s:Int) /\
  ∃ d' S,BX c H d' U.H/\ze d d'/\zd d' S/\U.H[H.length]?=some (.cells (qB X))/\U.H[H.length+1]?=some (.cells (qB Y))/\U.H[H.length+2]?=some (.cells (qB zh))/\U.H[H.length+3]?=some (.cells (qB S)) /\
   ∀b k,k<16->qu d' b S k=(decide (zt (qu d b Y) 16<s)&&shB up (qu d b X) (zt (qu d b Y) 16) k)) ?_ ?_ ?_
 . exact⟨by simp,by simp,by simp,by simp,by simp,by simp,by simp,d,zh,h.app _,qFU d,wo h.ok,lk0,lk1,lk2,lk3,fun b k hk=>by rw[kH h.ok];simp⟩
 . rintro s ev ⟨H1,T1⟩ R hR hs ⟨e0,e3,e5,e6,e8,e9,e15,d1,S,hx,hg,hS,hHX,hHY,hHZ,hHS,hb⟩;have hSl:=hS.1;have hw:=wr (n:=(s:Int)+1) (by omega) (by omega);simp[e15,show(s:Int)<16 by omega];rw[qU rfl];simp[*,zg,qs hYl];refine qFp (yw s (by omega)) rfl ?_;simp[zg];refine qFs (qa0 hx.self (hY.grown hg) (Wx hx.ok s)) ?_;rintro v ⟨H2,T2⟩ ⟨d2,t,rfl,hxx2,hg2,ht,hv2⟩;dsimp only at hv2;have hx2':=hx.call hxx2;have up2:∀{k:Nat} {x:Blk},H.length<=k->H1[k]?=some x->H2[k]?=some x:=fun {k x} hl hq=>hxx2.loc hq (hk k hl)
   have htv:∀b,evD d2 b t=decide (zt (qu d b Y) 16=s):=fun b=>by
    rw[hv2,qa1,JI hx.ok b (by omega),wO h.ok hg hY b]
   simp[zg];refine kl 16 (fun i ev U=>ev 0=.ptr c.B 0/\ev 3=.int .i64 (qik up)/\ev 5=.ptr H.length 0/\ev 6=.ptr (H.length+1) 0/\ev 8=.ptr (H.length+2) 0/\ev 9=.ptr (H.length+3) 0/\ev 10=.int .i64 (s:Int)/\ev 11=.int .i64 (t:Int)/\ev 15=.int .i64 (s:Int)/\ev 23=.int .i64 (i:Int) /\
    ∃ d' P,BX c H d' U.H/\ze d2 d'/\zd d' P/\U.H[H.length]?=some (.cells (qB X))/\U.H[H.length+1]?=some (.cells (qB Y))/\U.H[H.length+2]?=some (.cells (qB zh))/\U.H[H.length+3]?=some (.cells (qB P)) /\
     ∀b k,k<16->qu d' b P k=(qu d1 b S k||(decide (k<i)&&(evD d2 b t&&shB up (qu d b X) s k)))) ?_ ?_ ?_
   . exact⟨by simp[e0],by simp[e3],by simp[e5],by simp[e6],by simp[e8],by simp[e9],by simp,by simp,by simp[e15],by simp,d2,S,hx2',qFU d2,hS.grown hg2,up2 (by omega) hHX,up2 (by omega) hHY,up2 (by omega) hHZ,up2 (by omega) hHS,fun b k hk=>by rw[zM hx.ok hg2 hS b hk];simp⟩
   . rintro i ev ⟨H3,T3⟩ R2 hR2 hi ⟨e0,e3,e5,e6,e8,e9,e10,e11,e15,e23,d3,P,hx3,hg3,hP,bX,bY,bZ,bS,hpb⟩;have hPl:=hP.1;have hg03:=hg.trans (hg2.trans hg3);have hi':(i:Int)<16:=(by omega);have hi1:i+1<=16:=hi;have hwi:=wr (n:=(i:Int)+1) (by omega) (by omega);have hdm:-16<qik up*(s:Int)/\qik up*(s:Int)<16:=(by unfold qik;cases up<;>simp<;>omega);have hwm:=wr (n:=qik up*(s:Int)) (by omega) (by omega);have hwf:=wr (n:=(i:Int)-qik up*s) (by omega) (by omega);have hff:(i:Int)-qik up*s=Yn up s i:=rfl;rw[hff]at hwf;by_cases hrg:0<=Yn up s i/\Yn up s i<16
     . obtain⟨m,hm,hm16,hmx⟩:=qsu hs hi hrg;obtain⟨hrg1,hrg2⟩:=hrg;obtain⟨x,hx1,hx2,hx3'⟩:=hX.getG h.ok hg03 hm16;obtain⟨p,hp1,hp2,_,hp4⟩:=hP.get hi;have hdx:=z5 hx1;have hdp:=z5 hp1;have htl:t<d3.length:=qBd ht hg3.len;have hm1:m+1<=16:=hm16;have hm2:(m:Int)<16:=(by omega);rw[hm]at hwf hrg1 hrg2;rw[hm]at hff;simp[*];rw[qU rfl];simp[*,zg];have key:=Zb c hx3.self (f:=t) (g:=x) htl hx2 (T:=T3);refine⟨qFs key ?_,qFs key ?_⟩
       all_goals
        rintro v ⟨H4,T4⟩ ⟨d4,z,rfl,hxx4,hg4,hz,hv4⟩;dsimp only at hv4;have hx4':=hx3.call hxx4;have up4:∀{k:Nat} {x:Blk},H.length<=k->H3[k]?=some x->H4[k]?=some x:=fun {k x} hl hq=>hxx4.loc hq (hk k hl)
        have cS:=up4 (by omega) bS;simp[*,zg];refine qFs (qcq c hx4'.self (f:=p) (g:=z) (qBd hp2 hg4.len) hz) ?_;rintro v ⟨H5,T5⟩ ⟨d5,y,rfl,hxx5,hg5,hy,hv5⟩;dsimp only at hv5;have hx5':=hx4'.call hxx5;have up5:∀{k:Nat} {x:Blk},H.length<=k->H3[k]?=some x->H5[k]?=some x:=fun {k x} hl hq=>hxx5.loc (up4 hl hq) (hk k hl)
        have cS5:=up5 (by omega) bS;have hl5:=(qAU.1 cS5).1;simp[zg,e9,e23,hi',hi1,cS5,hPl,kF,hwi];refine hR2 _ _ ⟨by simp[e0],by simp[e3],by simp[e5],by simp[e6],by simp[e8],by simp[e9],by simp[e10],by simp[e11],by simp[e15],by simp,d5,P.set i y,hx5'.set (by omega) _,hg3.trans (hg4.trans hg5),(hP.grown (hg4.trans hg5)).set hy,?_,?_,?_,qA0 hl5,fun b k hk=>?_⟩
        . rw[qAX (by omega)];exact up5 (by omega) bX
        . rw[qAX (by omega)];exact up5 (by omega) bY
        . rw[qAX (by omega)];exact up5 (by omega) bZ
        rw[w6 (by omega)];by_cases hki:k=i
        . subst hki;rw[if_pos rfl,hv5,hg4.ev hx3.ok b hp2,hv4,<- hp4,hpb b k hk,hg3.ev hx2'.ok b ht,hx3',hmx];simp
        rw[if_neg hki,zM hx3.ok (hg4.trans hg5) hP b hk,hpb b k hk];by_cases h1:k<i
        . have h2:k<i+1:=(by omega);simp[*]
        have h2:¬k<i+1:=(by omega);simp[*]
     have hno:=qsv hs hi hrg;have fin:∀ev',ev' 0=.ptr c.B 0->ev' 3=.int .i64 (qik up)->ev' 5=.ptr H.length 0->ev' 6=.ptr (H.length+1) 0->ev' 8=.ptr (H.length+2) 0->ev' 9=.ptr (H.length+3) 0->ev' 10=.int .i64 (s:Int)->ev' 11=.int .i64 (t:Int)->ev' 15=.int .i64 (s:Int)->ev' 23=.int .i64 (((i+1:Nat)):Int)->R2 ev' ⟨H3,T3⟩:=fun ev' a0 a3 a5 a6 a8 a9 a10 a11 a15 a23=>
      hR2 _ _ ⟨a0,a3,a5,a6,a8,a9,a10,a11,a15,a23,d3,P,hx3,hg3,hP,bX,bY,bZ,bS,fun b k hk=>by
       rw[hpb b k hk];by_cases hki:k=i
       . subst hki;rw[hno];simp
       by_cases h1:k<i
       . have h2:k<i+1:=(by omega);simp[*]
       have h2:¬k<i+1:=(by omega);simp[*]⟩
     by_cases h0:0<=Yn up s i
     . have h16:¬Yn up s i<16:=fun h=>hrg ⟨h0,h⟩
       simp[e3,e10,e23,hi',hwm,hff,hwf,h0,h16,hwi];exact fin _ (by simp[e0]) (by simp[e3]) (by simp[e5]) (by simp[e6]) (by simp[e8]) (by simp[e9]) (by simp[e10]) (by simp[e11]) (by simp[e15]) (by simp)
     simp[e3,e10,e23,hi',hwm,hff,hwf,h0,hwi];exact fin _ (by simp[e0]) (by simp[e3]) (by simp[e5]) (by simp[e6]) (by simp[e8]) (by simp[e9]) (by simp[e10]) (by simp[e11]) (by simp[e15]) (by simp)
   rintro ev ⟨H3,T3⟩ ⟨e0,e3,e5,e6,e8,e9,e10,e11,e15,e23,d3,P,hx3,hg3,hP,bX,bY,bZ,bS,hpb⟩;simp[*];refine hR _ _ ⟨by simp[e0],by simp[e3],by simp[e5],by simp[e6],by simp[e8],by simp[e9],by simp,d3,P,hx3,hg.trans (hg2.trans hg3),hP,bX,bY,bZ,bS,fun b k hk=>?_⟩;rw[hpb b k hk,hb b k hk,htv b];by_cases h1:zt (qu d b Y) 16=s
   . rw[h1];simp[hk]
   by_cases h2:zt (qu d b Y) 16<s
   . have h3:zt (qu d b Y) 16<s+1:=(by omega);simp[*]
   have h3:¬zt (qu d b Y) 16<s+1:=(by omega);simp[*]
 rintro ev ⟨H1,T1⟩ ⟨e0,e3,e5,e6,e8,e9,e15,d1,S,hx,hg,hS,hHX,hHY,hHZ,hHS,hb⟩;have hSl:=hS.1;have hHl:=(qAU.1 hHZ).1;simp[*,-getElem?_pos,qs hSl,zr hSl (show(qB zh).length=16 from rfl),qW];exact⟨d1,S,rfl,hx.set (by omega) _,hg,hS,hb⟩
end
def qp0(x:Nat):List Nat->Bool
 |a::b::r=>(decide (a<=x)&&decide (x<=b))||qp0 x r
 |_=>false
def Wf{Ws:List (List Nat)}(h:∀w∈Ws,w.length=16):(Ws.flatMap qB).length=Ws.length*16:=by
 induction Ws with
 |nil=>rfl
 |cons a r ih=>rw[qBm,qAY,jG,h a (by simp),ih fun w hw=>h w (by simp[hw]),qBc];omega
def qc7:∀{Ws:List (List Nat)}{i:Nat}{w:List Nat},(∀w∈Ws,w.length=16)->Ws[i]?=some w->((Ws.flatMap qB).drop (i*16)).take 16=qB w
 |[],i,w,_,hw=>by simp at hw
 | a::r,0,w,h,hw=>by
  simp at hw;subst hw;have ha:=h a (by simp);rw[qBm,qCK,qBZ,qB6 (by rw[jG,ha];exact qA5 _),qs ha]
 | a::r,i+1,w,h,hw=>by
  have ha:=h a (by simp);have hal:(qB a).length=16:=by rw[jG,ha]
  have ih:=qc7 (Ws:=r) (i:=i) (w:=w) (fun w hw=>h w (by simp[hw])) (by simpa using hw);have e:(i+1)*16=16+i*16:=by omega
  rw[qBm,e,qCN,qBq (by omega),hal,qBk,qB0,ih]
section
variable {c:Bc}{d:List Nd}{H:List Blk}{T:List (Option Nat)}
def qnq:List (Nat×Sch×List Nat):=[(5,.step 0 [9,8] (.step 1 [9,8,7] (.step 2 [9,8,7] (.step 3 [9,8,7,6,5] (.step 4 [9,8,7,6,5] (.step 5 [9,8,7,6] (.step 6 [9,8,7] (.step 7 [9,8] (.step 8 [9] (.step 9 [] (.done)))))))))),[7,8]),(6,.step 0 [10,9] (.step 1 [10,9,8] (.step 2 [10,9,8,6,5] (.step 3 [10,9,8,6,5,4] (.step 4 [10,9,8,6,5] (.step 5 [10,9,8,6] (.step 6 [10,9,8] (.step 7 [10,9,8] (.step 8 [10,9] (.step 9 [10] (.step 10 [] (.done))))))))))),[8,9])]
def qkD(h:BX c H d H){X}(hX:zd d X){A V}{Ws:List (List Nat)}(hV:V.length=16)(hWs:∀w∈Ws,zd d w)(hA:H[A]?=some (.cells (qB V++Ws.flatMap qB)))(hAB:A≠c.B)(hn:Ws.length<=1000):
 qj prog (XG c) 199 [.ptr c.B 0,.agg (qB X),.ms A 16 Ws.length 16] ⟨H,T⟩ (NQ c d H fun b=>qp0 (zt (qu d b X) 16) (Ws.map fun w=>zt (qu d b w) 16)):=by
 refine qFn ⟨false,qnq,[],[]⟩ qg func199 rfl (by kernel_rfl) ?_;have hXl:=hX.1;have hk:∀j,H.length<=j->j≠c.B:=fun j hj=>(h.at hj).1
 have hW16:∀w∈Ws,w.length=16:=fun w hw=>(hWs w hw).1
 have hCl:(qB V++Ws.flatMap qB).length=16+Ws.length*16:=by rw[qAY,jG,hV,Wf hW16]
 have hcut:∀{i:Nat} {w:List Nat},Ws[i]?=some w->((qB V++Ws.flatMap qB).drop (16+i*16)).take 16=qB w:=fun {i w} hw=>by
  have hv:(qB V).length=16:=by rw[jG,hV]
  rw[qCN,qBq (by omega),qBk,hv,qB0];exact qc7 hW16 hw
 have hVal:∀{d':List Nd} {w:List Nat},ze d d'->w∈Ws->∀b,zt (qu d' b w) 16=zt (qu d b w) 16:=fun {d' w} hg hw b=>wO h.ok hg (hWs w hw) b
 generalize hC:qB V++Ws.flatMap qB=C at *;simp;refine qFu (fun n ev U=>ev 0=.ptr c.B 0/\ev 2=.ms A 16 Ws.length 16/\ev 4=.ptr H.length 0 /\
  ∃ i d' t,n=Ws.length+1-i/\i<=Ws.length/\ev 8=.int .i64 (i:Int)/\ev 7=.int .i64 (t:Nat)/\BX c H d' U.H/\ze d d'/\t<d'.length/\U.H[H.length]?=some (.cells (qB X))/\U.H[A]?=some (.cells C) /\
   ∀b,(evD d' b t||qp0 (zt (qu d b X) 16) ((Ws.drop i).map fun w=>zt (qu d b w) 16))=qp0 (zt (qu d b X) 16) (Ws.map fun w=>zt (qu d b w) 16)) (Ws.length+1) ?_ ?_
 . exact⟨by simp,by simp,by simp,0,d,0,rfl,by omega,by simp,by simp,h.app _,qFU d,by have:=h.ok.two;omega,lk0,qf hA _,fun b=>by rw[Yo h.ok];simp⟩
 rintro n ev ⟨H1,T1⟩ R hR ⟨e0,e2,e4,i,d1,t,rfl,hi,e8,e7,hx,hg,ht,bX,bA,hv⟩;have hw1:=wr (n:=(i:Int)+1) (by omega) (by omega);have hw2:=wr (n:=(i:Int)+2) (by omega) (by omega);by_cases hlt:i+1<Ws.length
 . have hlt':(i:Int)+1<Ws.length:=(by omega);have hi1:i<Ws.length:=(by omega);obtain⟨w0,hw0⟩:∃w,Ws[i]?=some w:=⟨_,qAW hi1⟩;obtain⟨w1,hw1'⟩:∃w,Ws[i+1]?=some w:=⟨_,qAW hlt⟩;have m0:=qAV hw0;have m1:=qAV hw1';have c0:=hcut hw0;have c1:=hcut hw1';have b0:16+i*16+16<=C.length:=(by rw[hCl];omega);have b1:16+(i+1)*16+16<=C.length:=(by rw[hCl];omega);rw[hCl]at b0 b1;have hdrop:Ws.drop i=w0::w1::Ws.drop (i+2):=by
    rw[qA9 hi1,qA9 hlt];obtain⟨_,q0⟩:=qAU.1 hw0;obtain⟨_,q1⟩:=qAU.1 hw1';rw[q0,q1]
   simp[*];rw[qU rfl];simp[zg,e0,e2,e4,e8,show(i:Int)<Ws.length by omega,bX,bA,hXl,qs hXl,hCl,b0,c0];refine qFs (qaL hx.self (hX.grown hg) ((hWs w0 m0).grown hg)) ?_;rintro v ⟨H2,T2⟩ ⟨d2,y2,rfl,hxx2,hg2,hy2,hv2⟩;dsimp only at hv2;have hx2:=hx.call hxx2;simp[zg,e8];refine qFs (Q9 c hx2.self hy2) ?_;rintro v ⟨H3,T3⟩ ⟨d3,y3,rfl,hxx3,hg3,hy3,hv3⟩;dsimp only at hv3;have hx3:=hx2.call hxx3;have cX:=hxx3.loc (hxx2.loc bX (hk _ (qA5 _))) (hk _ (qA5 _));have cA:=hxx3.loc (hxx2.loc bA hAB) hAB;have hg23:=hg2.trans hg3;have hg03:=hg.trans hg23;simp[e8];rw[qU rfl];simp[zg,e0,e2,e4,e8,hw1,hlt',show(0:Int)<=(i:Int)+1 by omega,show((i:Int)+1).toNat=i+1 by omega,cX,cA,hXl,qs hXl,hCl,b1,c1];refine qFs (qaL hx3.self ((hWs w1 m1).grown hg03) (hX.grown hg03)) ?_;rintro v ⟨H4,T4⟩ ⟨d4,y4,rfl,hxx4,hg4,hy4,hv4⟩;dsimp only at hv4;have hx4:=hx3.call hxx4;simp[zg,e8];refine qFs (Q9 c hx4.self hy4) ?_;rintro v ⟨H5,T5⟩ ⟨d5,y5,rfl,hxx5,hg5,hy5,hv5⟩;dsimp only at hv5;have hx5:=hx4.call hxx5;simp[*,zg];have hg35:=hg4.trans hg5;refine qFs (Zb c hx5.self (f:=y3) (g:=y5) (qBd hy3 hg35.len) hy5) ?_;rintro v ⟨H6,T6⟩ ⟨d6,y6,rfl,hxx6,hg6,hy6,hv6⟩;dsimp only at hv6;have hx6:=hx5.call hxx6;simp[e8];have hg16:=hg23.trans (hg35.trans hg6);refine qFs (qcq c hx6.self (f:=t) (g:=y6) (qBd ht hg16.len) hy6) ?_;rintro v ⟨H7,T7⟩ ⟨d7,y7,rfl,hxx7,hg7,hy7,hv7⟩;dsimp only at hv7;have hx7:=hx6.call hxx7;have up:∀{k:Nat} {x:Blk},k≠c.B->H3[k]?=some x->H7[k]?=some x:=fun {k x} hl hq=>hxx7.loc (hxx6.loc (hxx5.loc (hxx4.loc hq hl) hl) hl) hl
   simp[e8,hw2];refine hR (Ws.length+1-(i+2)) _ _ (by omega) ⟨by simp[e0],by simp[e2],by simp[e4],i+2,d7,y7,rfl,by omega,by simp,by simp,hx7,hg.trans (hg16.trans hg7),hy7,up (hk _ (qA5 _)) cX,up hAB cA,fun b=>?_⟩;rw[<- hv b,hdrop];simp only[qA7,qp0];have hXv:∀{d'},ze d d'->zt (qu d' b X) 16=zt (qu d b X) 16:=fun hg'=>wO h.ok hg' hX b
   rw[hv7,hg16.ev hx.ok b ht,hv6,hg35.ev hx3.ok b hy3,hv3,hv2,QL,hXv hg,hVal hg m0 b,hv5,hv4,QL,hXv hg03,hVal hg03 m1 b];generalize zt (qu d b X) 16=vx;generalize zt (qu d b w0) 16=v0;generalize zt (qu d b w1) 16=v1;rw[show(!decide (vx<v0))=decide (v0<=vx) by rw[qBP];simp,show(!decide (v1<vx))=decide (vx<=v1) by rw[qBP];simp,Bool.or_assoc]
 have hlt':¬(i:Int)+1<Ws.length:=by omega
 simp[*];refine⟨d1,t,rfl,hx,hg,ht,fun b=>?_⟩;refine Eq.trans ?_ (hv b);have:qp0 (zt (qu d b X) 16) ((Ws.drop i).map fun w=>zt (qu d b w) 16)=false:=by
  have hl:((Ws.drop i).map fun w=>zt (qu d b w) 16).length<=1:=by simp;omega
  generalize ((Ws.drop i).map fun w=>zt (qu d b w) 16)=l at hl
  match l,hl with
  |[],_=>rfl
  |[_],_=>rfl
 rw[this,Bool.or_false]
end
def qaz{d}(h:DagOk d)(b n):z7 d b (n::List.replicate 15 0)=b2i (evD d b n):=by
 unfold z7;rw[zw fun k _=>qf2 h b n k,qka]
section
variable {c:Bc}{d:List Nd}{H:List Blk}{T:List (Option Nat)}
def qnU(h:BX c H d H){X Y}(hX:zd d X)(hY:zd d Y)(op):
 qj prog (XG c) 277 [.ptr c.B 0,.int .i64 op,.agg (qB X),.agg (qB Y)] ⟨H,T⟩ (WQ c d H fun b=>b2i (if op=19 then Je (qu d b X) 16&&Je (qu d b Y) 16 else if op=20 then Je (qu d b X) 16||Je (qu d b Y) 16 else !Je (qu d b X) 16||Je (qu d b Y) 16)):=by
 refine qFo qg func277 rfl (by kernel_rfl) ?_;have hXl:=hX.1;have hYl:=hY.1;have hk:∀j,H.length<=j->j≠c.B:=fun j hj=>(h.at hj).1
 simp[jI];have hx1:=h.app [.cells (qB X),.cells (qB Y),.cells (qB zh)];have bY:(H++[Blk.cells (qB X),.cells (qB Y),.cells (qB zh)])[H.length+1]?=some (.cells (qB Y)):=lk1;have bZ:(H++[Blk.cells (qB X),.cells (qB Y),.cells (qB zh)])[H.length+2]?=some (.cells (qB zh)):=lk2;generalize H++[Blk.cells (qB X),.cells (qB Y),.cells (qB zh)]=H1 at *;simp[hXl,qs hXl];refine qFs (QE hx1.self hX) ?_;rintro v ⟨H2,T2⟩ ⟨d2,s,rfl,hxx2,hg2,hs,hv2⟩;have hx2:=hx1.call hxx2;have cY:=hxx2.loc bY (hk _ (by omega));have cZ:=hxx2.loc bZ (hk _ (by omega));simp[cY,hYl,qs hYl];refine qFs (QE hx2.self (hY.grown hg2)) ?_;rintro v ⟨H3,T3⟩ ⟨d3,t,rfl,hxx3,hg3,ht,hv3⟩;dsimp only at hv3;have hx3:=hx2.call hxx3;have eZ:=hxx3.loc cZ (hk _ (by omega));dsimp only at eZ;have hs3:s<d3.length:=qBd hs hg3.len;have hs3v:∀b,evD d3 b s=Je (qu d b X) 16:=fun b=>by rw[hg3.ev hx2.ok b hs,hv2]
 have ht3v:∀b,evD d3 b t=Je (qu d b Y) 16:=fun b=>by
  rw[hv3,Jd,Jd,wO h.ok hg2 hY b]
 have hg03:=hg2.trans hg3;have fin:∀{H4:List Blk} {d4:List Nd} {u:Nat} {τ:St} {v:(Nat->Bool)->Bool},τ.H=H4.set (H.length+2) (.cells (qB (u::List.replicate 15 0)))->BX c H d4 H4->ze d3 d4->u<d4.length->(∀b,evD d4 b u=v b)->WQ c d H (fun b=>b2i (v b)) (.agg (qB (u::List.replicate 15 0))) τ:=fun {H4 d4 u τ v} hτ hx4 hg4 hu hv=>by
  refine⟨d4,_,rfl,?_,hg03.trans hg4,qcr hx4.ok hu,fun b=>by rw[qaz hx4.ok,hv]⟩;rw[hτ];exact hx4.set (by omega) _
 have cut1:∀(u:Nat),(qB (u::List.replicate 15 0)).take 16=qB (u::List.replicate 15 0):=fun u=>qs rfl
 have put1:∀(u:Nat),zA (qB zh) 0 (qB (u::List.replicate 15 0))=qB (u::List.replicate 15 0):=fun u=>zr rfl rfl
 simp only[List.reduceReplicate]at fin cut1 put1;by_cases h19:op=19
 . simp[h19];refine qFs (Zb c hx3.self (f:=s) (g:=t) hs3 ht) ?_;rintro v ⟨H4,T4⟩ ⟨d4,u,rfl,hxx4,hg4,hu,hv4⟩;dsimp only at hv4;have gZ:=hxx4.loc eZ (hk _ (by omega));have hl:=(qAU.1 gZ).1;dsimp only at gZ hl;simp;refine qFp (jo u) rfl ?_;simp[-getElem?_pos,gZ,qW,put1,hl,cut1];exact fin rfl (hx3.call hxx4) hg4 hu fun b=>by rw[hv4,hs3v,ht3v]
 by_cases h20:op=20
 . simp[h20];refine qFs (qcq c hx3.self (f:=s) (g:=t) hs3 ht) ?_;rintro v ⟨H4,T4⟩ ⟨d4,u,rfl,hxx4,hg4,hu,hv4⟩;dsimp only at hv4;have gZ:=hxx4.loc eZ (hk _ (by omega));have hl:=(qAU.1 gZ).1;dsimp only at gZ hl;simp;refine qFp (jo u) rfl ?_;simp[-getElem?_pos,gZ,qW,put1,hl,cut1];exact fin rfl (hx3.call hxx4) hg4 hu fun b=>by rw[hv4,hs3v,ht3v]
 simp[h19,h20];refine qFs (Q9 c hx3.self hs3) ?_;rintro v ⟨H4,T4⟩ ⟨d4,q,rfl,hxx4,hg4,hq,hv4⟩;dsimp only at hv4;have hx4:=hx3.call hxx4;simp;refine qFs (qcq c hx4.self (f:=q) (g:=t) hq (qBd ht hg4.len)) ?_;rintro v ⟨H5,T5⟩ ⟨d5,u,rfl,hxx5,hg5,hu,hv5⟩;dsimp only at hv5;have gZ:=hxx5.loc (hxx4.loc eZ (hk _ (by omega))) (hk _ (by omega));have hl:=(qAU.1 gZ).1;dsimp only at gZ hl;simp;refine qFp (jo u) rfl ?_;simp[-getElem?_pos,gZ,qW,put1,hl,cut1];exact fin rfl (hx4.call hxx5) (hg4.trans hg5) hu fun b=>by rw[hv5,hv4,hs3v,hg4.ev hx3.ok b ht,ht3v]
end
def qxr(op a b:Int):Int:=if op=15 then b2i (decide (a=b)) else if op=16 then b2i (!decide (a=b)) else if op=17 then b2i (decide (a<b)) else b2i (decide (a<=b))
section
variable {c:Bc}{d:List Nd}{H:List Blk}{T:List (Option Nat)}
def qqc{d b X Y}:eqT (qu d b X) (qu d b Y) 16=decide (z7 d b X=z7 d b Y):=by
 rw[qa1,qBP,decide_eq_true_iff,decide_eq_true_iff];unfold z7;omega
def qga{d b X Y}:qeu (qu d b X) (qu d b Y) 16=decide (z7 d b X<z7 d b Y):=by
 rw[QL,qBP,decide_eq_true_iff,decide_eq_true_iff];unfold z7;omega
def qa9(h:BX c H d H){X Y}(hX:zd d X)(hY:zd d Y)(op):
 qj prog (XG c) 278 [.ptr c.B 0,.int .i64 op,.agg (qB X),.agg (qB Y)] ⟨H,T⟩ (WQ c d H fun b=>qxr op (z7 d b X) (z7 d b Y)):=by
 refine qFo qg func278 rfl (by kernel_rfl) ?_;have hXl:=hX.1;have hYl:=hY.1;have hk:∀j,H.length<=j->j≠c.B:=fun j hj=>(h.at hj).1
 simp[jI];have hx1:=h.app [.cells (qB X),.cells (qB Y),.cells (qB zh)];have bX:(H++[Blk.cells (qB X),.cells (qB Y),.cells (qB zh)])[H.length]?=some (.cells (qB X)):=lk0;have bY:(H++[Blk.cells (qB X),.cells (qB Y),.cells (qB zh)])[H.length+1]?=some (.cells (qB Y)):=lk1;have bZ:(H++[Blk.cells (qB X),.cells (qB Y),.cells (qB zh)])[H.length+2]?=some (.cells (qB zh)):=lk2;generalize H++[Blk.cells (qB X),.cells (qB Y),.cells (qB zh)]=H1 at *;have fin:∀{H4:List Blk} {d4:List Nd} {u:Nat} {τ:St} {v:(Nat->Bool)->Int},τ.H=H4.set (H.length+2) (.cells (qB (u::List.replicate 15 0)))->BX c H d4 H4->ze d d4->u<d4.length->(∀b,b2i (evD d4 b u)=v b)->WQ c d H v (.agg (qB (u::List.replicate 15 0))) τ:=fun {H4 d4 u τ v} hτ hx4 hg4 hu hv=>by
  refine⟨d4,_,rfl,?_,hg4,qcr hx4.ok hu,fun b=>by rw[qaz hx4.ok,hv]⟩;rw[hτ];exact hx4.set (by omega) _
 have cut1:∀(u:Nat),(qB (u::List.replicate 15 0)).take 16=qB (u::List.replicate 15 0):=fun u=>qs rfl
 have put1:∀(u:Nat),zA (qB zh) 0 (qB (u::List.replicate 15 0))=qB (u::List.replicate 15 0):=fun u=>zr rfl rfl
 simp at fin cut1 put1;by_cases h15:op=15
 . simp[*,qs hXl,qs hYl];refine qFs (qa0 hx1.self hX hY) ?_;rintro v ⟨H4,T4⟩ ⟨d4,u,rfl,hxx4,hg4,hu,hv4⟩;dsimp only at hv4;have gZ:=hxx4.loc bZ (hk _ (by omega));have hl:=(qAU.1 gZ).1;dsimp only at gZ hl;simp;refine qFp (jo u) rfl ?_;simp[*,-getElem?_pos,qW];exact fin rfl (hx1.call hxx4) hg4 hu fun b=>by rw[hv4,qqc];rfl
 by_cases h16:op=16
 . simp[*,qs hXl,qs hYl];refine qFs (qa0 hx1.self hX hY) ?_;rintro v ⟨H4,T4⟩ ⟨d4,u,rfl,hxx4,hg4,hu,hv4⟩;dsimp only at hv4;have hx4:=hx1.call hxx4;simp;refine qFs (Q9 c hx4.self hu) ?_;rintro v ⟨H5,T5⟩ ⟨d5,u5,rfl,hxx5,hg5,hu5,hv5⟩;dsimp only at hv5;have gZ:=hxx5.loc (hxx4.loc bZ (hk _ (by omega))) (hk _ (by omega));have hl:=(qAU.1 gZ).1;dsimp only at gZ hl;simp;refine qFp (jo u5) rfl ?_;simp[*,-getElem?_pos,qW];exact fin rfl (hx4.call hxx5) (hg4.trans hg5) hu5 fun b=>by rw[hv5,hv4,qqc];rfl
 by_cases h17:op=17
 . simp[*,qs hXl,qs hYl];refine qFs (qaL hx1.self hX hY) ?_;rintro v ⟨H4,T4⟩ ⟨d4,u,rfl,hxx4,hg4,hu,hv4⟩;dsimp only at hv4;have gZ:=hxx4.loc bZ (hk _ (by omega));have hl:=(qAU.1 gZ).1;dsimp only at gZ hl;simp;refine qFp (jo u) rfl ?_;simp[*,-getElem?_pos,qW];exact fin rfl (hx1.call hxx4) hg4 hu fun b=>by rw[hv4,qga];rfl
 simp[*,qs hXl,qs hYl];refine qFs (qaL hx1.self hY hX) ?_;rintro v ⟨H4,T4⟩ ⟨d4,u,rfl,hxx4,hg4,hu,hv4⟩;dsimp only at hv4;have hx4:=hx1.call hxx4;simp;refine qFs (Q9 c hx4.self hu) ?_;rintro v ⟨H5,T5⟩ ⟨d5,u5,rfl,hxx5,hg5,hu5,hv5⟩;dsimp only at hv5;have gZ:=hxx5.loc (hxx4.loc bZ (hk _ (by omega))) (hk _ (by omega));have hl:=(qAU.1 gZ).1;dsimp only at gZ hl;simp;refine qFp (jo u5) rfl ?_;simp[*,-getElem?_pos,qW];exact fin rfl (hx4.call hxx5) (hg4.trans hg5) hu5 fun b=>by
  rw[hv5,hv4,qga];unfold qxr;rw[if_neg h15,if_neg h16,if_neg h17];congr 1;rw[qBP];simp
def qer{d2 b V x y ci}(h:∀k,k<16->qu d2 b V k=qpt x y ci k):z7 d2 b V=(((zt x 16+zt y 16+b2n ci)%2^16:Nat):Int):=by
 unfold z7;rw[zw h,<- wu];rfl
def qrT{d d2 b V X Y}(h:∀k,k<16->qu d2 b V k=(decide (zt (qu d b Y) 16<16)&&shB true (qu d b X) (zt (qu d b Y) 16) k)):z7 d2 b V=jZ 13 (z7 d b X) (z7 d b Y):=by
 rw[show jZ 13 (z7 d b X) (z7 d b Y)=if 0<=z7 d b Y/\z7 d b Y<16 then qy (z7 d b X*2^(z7 d b Y).toNat) else 0 by simp[jZ]];by_cases hs:zt (qu d b Y) 16<16
 . rw[if_pos ⟨by unfold z7;omega,by unfold z7;omega⟩];have:z7 d2 b V=((zt (qu d b X) 16*2^zt (qu d b Y) 16%2^16:Nat):Int):=by
    unfold z7;rw[<- qja,zw fun k hk=>by rw[h k hk,decide_eq_true hs,qB7,shB,if_pos rfl]]
   rw[this,qxK];rfl
 rw[if_neg (by unfold z7;omega)];unfold z7;rw[kQ fun k hk=>by rw[h k hk,decide_eq_false hs];rfl];rfl
def qrS{d d2 b V X Y}(h:∀k,k<16->qu d2 b V k=(decide (zt (qu d b Y) 16<16)&&shB false (qu d b X) (zt (qu d b Y) 16) k)):z7 d2 b V=jZ 14 (z7 d b X) (z7 d b Y):=by
 rw[show jZ 14 (z7 d b X) (z7 d b Y)=if 0<=z7 d b Y/\z7 d b Y<16 then qy (z7 d b X)/2^(z7 d b Y).toNat else 0 by simp[jZ]];by_cases hs:zt (qu d b Y) 16<16
 . rw[if_pos ⟨by unfold z7;omega,by unfold z7;omega⟩];have:z7 d2 b V=((zt (qu d b X) 16/2^zt (qu d b Y) 16:Nat):Int):=by
    unfold z7;rw[<- qjb,zw fun k hk=>by rw[h k hk,decide_eq_true hs,qB7,shB,if_neg (by simp)]]
   rw[this,qxJ];rfl
 rw[if_neg (by unfold z7;omega)];unfold z7;rw[kQ fun k hk=>by rw[h k hk,decide_eq_false hs];rfl];rfl
def qlO(h:BX c H d H){X Y}(hX:zd d X)(hY:zd d Y){op}(h7:7<=op)(h21:op<=21):
 qj prog (XG c) 203 [.ptr c.B 0,.int .i64 op,.agg (qB X),.agg (qB Y)] ⟨H,T⟩ (WQ c d H fun b=>jZ op (z7 d b X) (z7 d b Y)):=by
 refine qFo qg func203 rfl (by kernel_rfl) ?_;have hXl:=hX.1;have hYl:=hY.1;have hk:∀j,H.length<=j->j≠c.B:=fun j hj=>(h.at hj).1
 simp[jI];have hx1:=h.app [.cells (qB X),.cells (qB Y),.cells (qB zh)];have bY:(H++[Blk.cells (qB X),.cells (qB Y),.cells (qB zh)])[H.length+1]?=some (.cells (qB Y)):=lk1;have bZ:(H++[Blk.cells (qB X),.cells (qB Y),.cells (qB zh)])[H.length+2]?=some (.cells (qB zh)):=lk2;generalize H++[Blk.cells (qB X),.cells (qB Y),.cells (qB zh)]=H1 at *;have fin:∀{H4:List Blk} {d4:List Nd} {V:List Nat} {τ:St} {v:(Nat->Bool)->Int},τ.H=H4.set (H.length+2) (.cells (qB V))->BX c H d4 H4->ze d d4->zd d4 V->(∀b,z7 d4 b V=v b)->WQ c d H v (.agg (qB V)) τ:=fun {H4 d4 V τ v} hτ hx4 hg4 hV hv=>by
  refine⟨d4,_,rfl,?_,hg4,hV,hv⟩;rw[hτ];exact hx4.set (by omega) _
 have ht:=h.ok.two;have t0:∀op T,15<=op/\op<=18->qj prog (XG c) 278 [.ptr c.B 0,.int .i64 op,.agg (qB X),.agg (qB Y)] ⟨H1,T⟩ (WQ c d H1 fun b=>jZ op (z7 d b X) (z7 d b Y)):=fun op T ho=>by
  have:=qa9 hx1.self hX hY op (T:=T);have e:(fun b=>qxr op (z7 d b X) (z7 d b Y))=fun b=>jZ op (z7 d b X) (z7 d b Y):=by
   funext b;obtain rfl|rfl|rfl|rfl:op=15\/op=16\/op=17\/op=18:=by omega
   all_goals simp[qxr,jZ]
  rwa[e]at this
 have t1:∀op T,19<=op/\op<=21->qj prog (XG c) 277 [.ptr c.B 0,.int .i64 op,.agg (qB X),.agg (qB Y)] ⟨H1,T⟩ (WQ c d H1 fun b=>jZ op (z7 d b X) (z7 d b Y)):=fun op T ho=>by
  have:=qnU hx1.self hX hY op (T:=T);have e:(fun b=>b2i (if op=19 then Je (qu d b X) 16&&Je (qu d b Y) 16 else if op=20 then Je (qu d b X) 16||Je (qu d b Y) 16 else !Je (qu d b X) 16||Je (qu d b Y) 16))=fun b=>jZ op (z7 d b X) (z7 d b Y):=by
   funext b;rw[vW,vW];obtain rfl|rfl|rfl:op=19\/op=20\/op=21:=by omega
   all_goals simp[jZ,z7]
  rwa[e]at this
 have k7:=(qfu hx1.self hX hY (cn:=0) (T:=T) (by omega)).imp (Q':=WQ c d H1 fun b=>jZ 7 (z7 d b X) (z7 d b Y)) (fun v U ⟨d4,V,e,hx,hg,hV,hv⟩=>⟨d4,V,e,hx,hg,hV,fun b=>by
  rw[qer (hv b),Yo h.ok,<- wu,qxN];rfl⟩)
 have k8:=(Z6 hx1.self hX hY (T:=T)).imp (Q':=WQ c d H1 fun b=>jZ 8 (z7 d b X) (z7 d b Y)) (fun v U ⟨d4,V,e,hx,hg,hV,hv⟩=>⟨d4,V,e,hx,hg,hV,fun b=>by
  rw[qer (hv b),<- wu,qt4];rfl⟩)
 have k9:=(qhE hx1.self hX hY (T:=T)).imp (Q':=WQ c d H1 fun b=>jZ 9 (z7 d b X) (z7 d b Y)) (fun v U ⟨d4,V,e,hx,hg,hV,hv⟩=>⟨d4,V,e,hx,hg,hV,fun b=>by
  have hvb:=hv b;dsimp only at hvb;unfold z7;rw[hvb,qcA,qxL];rfl⟩)
 have k10:=(YC hx1.self hX hY (T:=T) (g:=272) (first:=[.ptr c.B 0]) (cap:=[]) (F:=fun _ p q=>p&&q) (fun d1 H1 T1 x y hx hg a b=>Zb c hx.self a b)).imp (Q':=WQ c d H1 fun b=>jZ 10 (z7 d b X) (z7 d b Y)) (fun v U ⟨d4,V,e,hx,hg,hV,hv⟩=>⟨d4,V,e,hx,hg,hV,fun b=>by
  unfold z7;rw[zw (hv b),qmH];rfl⟩)
 have k11:=(YC hx1.self hX hY (T:=T) (g:=191) (first:=[.ptr c.B 0]) (cap:=[]) (F:=fun _ p q=>p||q) (fun d1 H1 T1 x y hx hg a b=>qcq c hx.self a b)).imp (Q':=WQ c d H1 fun b=>jZ 11 (z7 d b X) (z7 d b Y)) (fun v U ⟨d4,V,e,hx,hg,hV,hv⟩=>⟨d4,V,e,hx,hg,hV,fun b=>by
  unfold z7;rw[zw (hv b),qqV];rfl⟩)
 have k12:=(YC hx1.self hX hY (T:=T) (g:=275) (first:=[.ptr c.B 0]) (cap:=[]) (F:=fun _ p q=>p ^^ q) (fun d1 H1 T1 x y hx hg a b=>qby c hx.self a b)).imp (Q':=WQ c d H1 fun b=>jZ 12 (z7 d b X) (z7 d b Y)) (fun v U ⟨d4,V,e,hx,hg,hV,hv⟩=>⟨d4,V,e,hx,hg,hV,fun b=>by
  unfold z7;rw[zw (hv b),qmG];rfl⟩)
 have k13:=(qfA hx1.self hX hY true (T:=T)).imp (Q':=WQ c d H1 fun b=>jZ 13 (z7 d b X) (z7 d b Y)) (fun v U ⟨d4,V,e,hx,hg,hV,hv⟩=>⟨d4,V,e,hx,hg,hV,fun b=>qrT (hv b)⟩);have k14:=(qfA hx1.self hX hY false (T:=T)).imp (Q':=WQ c d H1 fun b=>jZ 14 (z7 d b X) (z7 d b Y)) (fun v U ⟨d4,V,e,hx,hg,hV,hv⟩=>⟨d4,V,e,hx,hg,hV,fun b=>qrS (hv b)⟩);have k15:=t0 15 T (by omega);have k16:=t0 16 T (by omega);have k17:=t0 17 T (by omega);have k18:=t0 18 T (by omega);have k19:=t1 19 T (by omega);have k20:=t1 20 T (by omega);have k21:=t1 21 T (by omega);simp at k7 k13 k14;have hcases:op=7\/op=8\/op=9\/op=10\/op=11\/op=12\/op=13\/op=14\/op=15\/op=16\/op=17\/op=18\/op=19\/op=20\/op=21:=by omega
 rcases hcases with rfl|rfl|rfl|rfl|rfl|rfl|rfl|rfl|rfl|rfl|rfl|rfl|rfl|rfl|rfl
 all_goals
  simp[*,qs hXl,qs hYl];refine qFs (by assumption) ?_;rintro v ⟨H4,T4⟩ ⟨d4,V,rfl,hxx4,hg4,hV,hv4⟩;have gZ:=hxx4.loc bZ (hk _ (by omega));have hl:=(qAU.1 gZ).1;have hVl:=hV.1;simp[*,-getElem?_pos,qW,zr hVl (show(qB zh).length=16 from rfl),qs hVl];exact fin rfl (hx1.call hxx4) hg4 hV hv4
end
