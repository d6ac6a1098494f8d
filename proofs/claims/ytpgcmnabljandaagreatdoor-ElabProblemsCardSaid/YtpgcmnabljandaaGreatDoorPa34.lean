/- A part of the proof. -/
import Derived.Test.YtpgcmnabljandaaGreatDoorPa29
import Derived.Test.YtpgcmnabljandaaGreatDoorPa31
import Derived.Test.YtpgcmnabljandaaGreatDoorPa32
set_option linter.unusedVariables false
set_option linter.unusedSimpArgs false
set_option maxRecDepth 100000
set_option maxHeartbeats 16000000
set_option linter.defProp false
section
namespace Go.Proofs.YtpgcmnabljandaaGreatDoor
open Go Go.Abs
section
attribute [local simp] acells fin zh ze pl1 plain pl2 AV.atom
mutual
def Zy:It->List It
 | .mk k e n i w l m b a=>.mk k e n i w l m b a::(zA l++zA m)
def zA:List It->List It
 | []=>[]
 | x::r=>Zy x++zA r
end
theorem qX (x:It):Zy x=x::(zA x.items++zA x.els):=by cases x;simp[Zy,It.items,It.els]
theorem qV {l:List It}{x:It}:x∈zA l↔∃ a∈l,x∈Zy a:=by
 induction l with
 | nil=>simp[zA]
 | cons e r ih=>simp[zA,ih]
structure Hold1 (x:It):Prop where
 expr:Wen x.expr
 name:Fits x.name
 index:Fits x.index
 ws:Fits x.ws
 items:Fits x.items
 els:Fits x.els
 before:Fits x.before
 after:Fits x.after
 names:∀ s∈x.before++x.after,Fits s
def yF (x:It):Prop:=∀ y∈Zy x,Hold1 y
structure HoldC (c:Cls):Prop where
 name:Fits c.name
 parent:Fits c.parent
 fields:Fits c.fields
 blocks:Fits c.blocks
 fnames:∀ f∈c.fields,Fits f.name
 bnames:∀ b∈c.blocks,Fits b.name/\Fits b.items/\∀ x∈b.items,yF x
structure HoldA (q:Ask):Prop where
 src:Fits q.src
 classes:∀ c∈q.src,HoldC c
 name:Fits q.name
 off:Fits q.off
 offs:∀ s∈q.off,Fits s
 more:Fits q.more
 items:∀ x∈q.more,yF x
 state:Fits q.state
 states:∀ s∈q.state,Fits s.name
theorem k23:Zp.cellsOf 23=1:=by kernel_rfl
theorem k24:Zp.cellsOf 24=1:=by kernel_rfl
theorem k25:Zp.cellsOf 25=1:=by kernel_rfl
theorem k22:Zp.cellsOf 22=1:=by kernel_rfl
theorem k40:Zp.cellsOf 40=1:=by kernel_rfl
theorem k41:Zp.cellsOf 41=1:=by kernel_rfl
theorem k43:Zp.cellsOf 43=4:=by kernel_rfl
theorem k52:Zp.cellsOf 52=2:=by kernel_rfl
theorem k68:Zp.cellsOf 68=12:=by kernel_rfl
theorem k107:Zp.cellsOf 107=2:=by kernel_rfl
theorem k140:Zp.cellsOf 140=5:=by kernel_rfl
theorem k27:Zp.cellsOf 27=5:=by kernel_rfl
section
variable {H:Type}{enc:TypeId×Value->H}{w:World}{base:Nat}{held:Bool}
theorem rdSig {n:Nat}{cs:List Value}{x:DataW H×List MemPlace}(h:DataW.trod enc Zp w base (fun _=>true) held n 107 cs=some x):∃ v:Signal,qk (KW w) (qD v) cs/\Fits v.name:=by
 obtain⟨m,rfl,hl,hf⟩:=vk Tryz.underlying107 h;rw[k107]at hl
 match cs,hl with
 | [a,b],_=>
  obtain⟨y0,h0⟩:=hf 0 _ rfl;obtain⟨y1,h1⟩:=hf 1 _ rfl;have h0:DataW.trod enc Zp w base (fun _=>true) held m 9 (List.take (Zp.cellsOf 9) (List.drop 0 [a,b]))=some y0:=h0;rw[k9]at h0;have h1:DataW.trod enc Zp w base (fun _=>true) held m 3 (List.take (Zp.cellsOf 3) (List.drop 1 [a,b]))=some y1:=h1;rw[k3]at h1;obtain⟨s,rfl,hs⟩:=Jp (c:=a) h0;obtain⟨i,rfl⟩:=QJ (c:=b) h1;refine⟨⟨s.data.toList,i⟩,?_,hs⟩;simp only[qD,qk];exact⟨_,_,rfl,wN,_,_,rfl,by simp[qj],rfl⟩
theorem rdFld {n:Nat}{cs:List Value}{x:DataW H×List MemPlace}(h:DataW.trod enc Zp w base (fun _=>true) held n 140 cs=some x):∃ v:Fld,qk (KW w) (q8 v) cs/\Fits v.name:=by
 obtain⟨m,rfl,hl,hf⟩:=vk Tryz.underlying140 h;rw[k140]at hl
 match cs,hl with
 | [a,b,c,d,e],_=>
  obtain⟨y0,h0⟩:=hf 0 _ rfl;obtain⟨y1,h1⟩:=hf 1 _ rfl;obtain⟨y2,h2⟩:=hf 2 _ rfl;obtain⟨y3,h3⟩:=hf 3 _ rfl;obtain⟨y4,h4⟩:=hf 4 _ rfl;have h0:DataW.trod enc Zp w base (fun _=>true) held m 9 (List.take (Zp.cellsOf 9) (List.drop 0 [a,b,c,d,e]))=some y0:=h0;rw[k9]at h0;have h1:DataW.trod enc Zp w base (fun _=>true) held m 3 (List.take (Zp.cellsOf 3) (List.drop 1 [a,b,c,d,e]))=some y1:=h1;rw[k3]at h1;have h2:DataW.trod enc Zp w base (fun _=>true) held m 3 (List.take (Zp.cellsOf 3) (List.drop 2 [a,b,c,d,e]))=some y2:=h2;rw[k3]at h2;have h3:DataW.trod enc Zp w base (fun _=>true) held m 3 (List.take (Zp.cellsOf 3) (List.drop 3 [a,b,c,d,e]))=some y3:=h3;rw[k3]at h3;have h4:DataW.trod enc Zp w base (fun _=>true) held m 3 (List.take (Zp.cellsOf 3) (List.drop 4 [a,b,c,d,e]))=some y4:=h4;rw[k3]at h4;obtain⟨s,rfl,hs⟩:=Jp (c:=a) h0;obtain⟨i1,rfl⟩:=QJ (c:=b) h1;obtain⟨i2,rfl⟩:=QJ (c:=c) h2;obtain⟨i3,rfl⟩:=QJ (c:=d) h3;obtain⟨i4,rfl⟩:=QJ (c:=e) h4;refine⟨⟨s.data.toList,i1,i2,i3,i4⟩,?_,hs⟩;simp only[q8,qk];exact⟨_,_,rfl,wN,_,_,rfl,by simp[qj],_,_,rfl,by simp[qj],_,_,rfl,by simp[qj],_,_,rfl,by simp[qj],rfl⟩
theorem qjG {n:Nat}{c:Value}{y:DataW H×List MemPlace}(h:DataW.trod enc Zp w base (fun _=>true) held n 23 [c]=some y):∃ l:List Str,qj (KW w) (.sl 1 (l.map qs) .none) c/\Fits l/\∀ s∈l,Fits s:=by
 cases n with
 | zero=>simp[DataW.trod]at h
 | succ m=>
  obtain⟨l,v,e,hv,hfl,hg⟩:=kh (en:=qs) (good:=fun s=>Fits s) Tryz.underlying23 k9 (by omega) (fun y=>by simp[AV.atom]) (fun cs x h=>by
   obtain⟨s,e,_,hs⟩:=DataW.trod_string Tryz.underlying9 h;refine⟨s.data.toList,?_,?_⟩
   . rw[e];simp only[qs,qk];exact⟨_,_,rfl,wN,rfl⟩
   . have:s.data.toList.length=s.size:=qr0;rw[Fits,this];simp only[maxLen]at hs;omega) h
  cases e;exact⟨l,hv,hfl,hg⟩
theorem rdIt:∀ (N n:Nat),n<=N->∀ {cs:List Value} {x:DataW H×List MemPlace},DataW.trod enc Zp w base (fun _=>true) held n 68 cs=some x->∃ v:It,qk (KW w) (qK v) cs/\yF v:=by
 intro N
 induction N with
 | zero=>
  intro n hn cs x h;have:n=0:=by omega
  subst this;simp[DataW.trod]at h
 | succ N ih=>
  intro n hn cs x h;obtain⟨m,rfl,hl,hf⟩:=vk Tryz.underlying68 h;rw[k68]at hl
  match cs,hl with
  | [a0,a1,a2,a3,a4,a5,a6,a7,a8,a9,a10,a11],_=>
   obtain⟨y0,h0⟩:=hf 0 _ rfl;have h0:DataW.trod enc Zp w base (fun _=>true) held m 3 (List.take (Zp.cellsOf 3) (List.drop 0 [a0,a1,a2,a3,a4,a5,a6,a7,a8,a9,a10,a11]))=some y0:=h0;rw[k3]at h0;obtain⟨y1,h1⟩:=hf 1 _ rfl;have h1:DataW.trod enc Zp w base (fun _=>true) held m 55 (List.take (Zp.cellsOf 55) (List.drop 1 [a0,a1,a2,a3,a4,a5,a6,a7,a8,a9,a10,a11]))=some y1:=h1;rw[k55]at h1;obtain⟨y2,h2⟩:=hf 2 _ rfl;have h2:DataW.trod enc Zp w base (fun _=>true) held m 9 (List.take (Zp.cellsOf 9) (List.drop 5 [a0,a1,a2,a3,a4,a5,a6,a7,a8,a9,a10,a11]))=some y2:=h2;rw[k9]at h2;obtain⟨y3,h3⟩:=hf 3 _ rfl;have h3:DataW.trod enc Zp w base (fun _=>true) held m 9 (List.take (Zp.cellsOf 9) (List.drop 6 [a0,a1,a2,a3,a4,a5,a6,a7,a8,a9,a10,a11]))=some y3:=h3;rw[k9]at h3;obtain⟨y4,h4⟩:=hf 4 _ rfl;have h4:DataW.trod enc Zp w base (fun _=>true) held m 66 (List.take (Zp.cellsOf 66) (List.drop 7 [a0,a1,a2,a3,a4,a5,a6,a7,a8,a9,a10,a11]))=some y4:=h4;rw[k66]at h4;obtain⟨y5,h5⟩:=hf 5 _ rfl;have h5:DataW.trod enc Zp w base (fun _=>true) held m 24 (List.take (Zp.cellsOf 24) (List.drop 8 [a0,a1,a2,a3,a4,a5,a6,a7,a8,a9,a10,a11]))=some y5:=h5;rw[k24]at h5;obtain⟨y6,h6⟩:=hf 6 _ rfl;have h6:DataW.trod enc Zp w base (fun _=>true) held m 24 (List.take (Zp.cellsOf 24) (List.drop 9 [a0,a1,a2,a3,a4,a5,a6,a7,a8,a9,a10,a11]))=some y6:=h6;rw[k24]at h6;obtain⟨y7,h7⟩:=hf 7 _ rfl;have h7:DataW.trod enc Zp w base (fun _=>true) held m 23 (List.take (Zp.cellsOf 23) (List.drop 10 [a0,a1,a2,a3,a4,a5,a6,a7,a8,a9,a10,a11]))=some y7:=h7;rw[k23]at h7;obtain⟨y8,h8⟩:=hf 8 _ rfl;have h8:DataW.trod enc Zp w base (fun _=>true) held m 23 (List.take (Zp.cellsOf 23) (List.drop 11 [a0,a1,a2,a3,a4,a5,a6,a7,a8,a9,a10,a11]))=some y8:=h8;rw[k23]at h8;obtain⟨i0,rfl⟩:=QJ (c:=a0) h0;have h1':DataW.trod enc Zp w base (fun _=>true) held m 55 [a1,a2,a3,a4]=some y1:=h1;obtain⟨ex,re,ge⟩:=rdE m m (qrn _) h1';obtain⟨s2,rfl,g2⟩:=Jp (c:=a5) h2;obtain⟨s3,rfl,g3⟩:=Jp (c:=a6) h3;have h4':DataW.trod enc Zp w base (fun _=>true) held m 66 [a7]=some y4:=h4;have h5':DataW.trod enc Zp w base (fun _=>true) held m 24 [a8]=some y5:=h5;have h6':DataW.trod enc Zp w base (fun _=>true) held m 24 [a9]=some y6:=h6;obtain⟨l7,r7,f7,g7⟩:=qjG (c:=a10) h7;obtain⟨l8,r8,f8,g8⟩:=qjG (c:=a11) h8
   cases m with
   | zero=>simp[DataW.trod]at h4'
   | succ m=>
    obtain⟨l4,v4,e4,r4,f4,_⟩:=kh (en:=zs) (good:=fun _=>True) Tryz.underlying66 k155 (by omega) (fun y=>by simp[AV.atom]) (fun cs x h=>qmt h) h4';obtain⟨l5,v5,e5,r5,f5,g5⟩:=kh (en:=qK) (good:=yF) Tryz.underlying24 k68 (by omega) (fun y=>⟨yY y,yy y⟩) (fun cs x h=>ih m (by omega) h) h5';obtain⟨l6,v6,e6,r6,f6,g6⟩:=kh (en:=qK) (good:=yF) Tryz.underlying24 k68 (by omega) (fun y=>⟨yY y,yy y⟩) (fun cs x h=>ih m (by omega) h) h6';cases e4;cases e5;cases e6;refine⟨.mk i0 ex s2.data.toList s3.data.toList l4 l5 l6 l7 l8,?_,?_⟩
    . rw[ql];simp only[It.kind,It.expr,It.name,It.index,It.ws,It.items,It.els,It.before,It.after];rw[qa]at re ⊢;simp only[qk]at re;obtain⟨b1,t1,q1,re1,b2,t2,q2,re2,b3,t3,q3,re3,b4,t4,q4,re4,q5⟩:=re;simp only[List.cons.injEq]at q1;obtain⟨rfl,rfl⟩:=q1;simp only[List.cons.injEq]at q2;obtain⟨rfl,rfl⟩:=q2;simp only[List.cons.injEq]at q3;obtain⟨rfl,rfl⟩:=q3;simp only[List.cons.injEq]at q4;obtain⟨rfl,rfl⟩:=q4;simp only[qrd,qrh,qk];exact⟨_,_,rfl,by simp[qj],_,_,rfl,re1,_,_,rfl,re2,_,_,rfl,re3,_,_,rfl,re4,_,_,rfl,wN,_,_,rfl,wN,_,_,rfl,r4,_,_,rfl,r5,_,_,rfl,r6,_,_,rfl,r7,_,_,rfl,r8,rfl⟩
    . intro y hy;rw[qX]at hy;rcases qra.1 hy with rfl|hy
      . exact⟨ge,g2,g3,f4,f5,f6,f7,f8,fun s hs=>by
         rcases qre.1 hs with hs|hs
         . exact g7 s hs
         . exact g8 s hs⟩
      . rcases qre.1 hy with hy|hy
        . obtain⟨b,hb,hyb⟩:=qV.1 hy;exact g5 b hb y hyb
        . obtain⟨b,hb,hyb⟩:=qV.1 hy;exact g6 b hb y hyb
theorem rdBlc {n:Nat}{cs:List Value}{x:DataW H×List MemPlace}(h:DataW.trod enc Zp w base (fun _=>true) held n 52 cs=some x):∃ b:Blc,qk (KW w) (qR b) cs/\(Fits b.name/\Fits b.items/\∀ x∈b.items,yF x):=by
 obtain⟨m,rfl,hl,hf⟩:=vk Tryz.underlying52 h;rw[k52]at hl
 match cs,hl with
 | [a,b],_=>
  obtain⟨y0,h0⟩:=hf 0 _ rfl;obtain⟨y1,h1⟩:=hf 1 _ rfl;have h0:DataW.trod enc Zp w base (fun _=>true) held m 9 (List.take (Zp.cellsOf 9) (List.drop 0 [a,b]))=some y0:=h0;rw[k9]at h0;have h1:DataW.trod enc Zp w base (fun _=>true) held m 24 (List.take (Zp.cellsOf 24) (List.drop 1 [a,b]))=some y1:=h1;rw[k24]at h1;obtain⟨s,rfl,hs⟩:=Jp (c:=a) h0;have h1':DataW.trod enc Zp w base (fun _=>true) held m 24 [b]=some y1:=h1
  cases m with
  | zero=>simp[DataW.trod]at h1'
  | succ m=>
   obtain⟨l,v,e,hv,hfl,hg⟩:=kh (en:=qK) (good:=yF) Tryz.underlying24 k68 (by omega) (fun y=>⟨yY y,yy y⟩) (fun cs x h=>rdIt m m (qrn _) h) h1';cases e;refine⟨⟨s.data.toList,l⟩,?_,hs,hfl,hg⟩;simp only[qR,qk];exact⟨_,_,rfl,wN,_,_,rfl,hv,rfl⟩
theorem rdCls {n:Nat}{cs:List Value}{x:DataW H×List MemPlace}(h:DataW.trod enc Zp w base (fun _=>true) held n 43 cs=some x):∃ c:Cls,qk (KW w) (qn c) cs/\HoldC c:=by
 obtain⟨m,rfl,hl,hf⟩:=vk Tryz.underlying43 h;rw[k43]at hl
 match cs,hl with
 | [a,b,c,d],_=>
  obtain⟨y0,h0⟩:=hf 0 _ rfl;obtain⟨y1,h1⟩:=hf 1 _ rfl;obtain⟨y2,h2⟩:=hf 2 _ rfl;obtain⟨y3,h3⟩:=hf 3 _ rfl;have h0:DataW.trod enc Zp w base (fun _=>true) held m 9 (List.take (Zp.cellsOf 9) (List.drop 0 [a,b,c,d]))=some y0:=h0;rw[k9]at h0;have h1:DataW.trod enc Zp w base (fun _=>true) held m 9 (List.take (Zp.cellsOf 9) (List.drop 1 [a,b,c,d]))=some y1:=h1;rw[k9]at h1;have h2:DataW.trod enc Zp w base (fun _=>true) held m 40 (List.take (Zp.cellsOf 40) (List.drop 2 [a,b,c,d]))=some y2:=h2;rw[k40]at h2;have h3:DataW.trod enc Zp w base (fun _=>true) held m 41 (List.take (Zp.cellsOf 41) (List.drop 3 [a,b,c,d]))=some y3:=h3;rw[k41]at h3;obtain⟨s0,rfl,g0⟩:=Jp (c:=a) h0;obtain⟨s1,rfl,g1⟩:=Jp (c:=b) h1;have h2':DataW.trod enc Zp w base (fun _=>true) held m 40 [c]=some y2:=h2;have h3':DataW.trod enc Zp w base (fun _=>true) held m 41 [d]=some y3:=h3
  cases m with
  | zero=>simp[DataW.trod]at h2'
  | succ m=>
   obtain⟨l2,v2,e2,r2,f2,q2⟩:=kh (en:=q8) (good:=fun f=>Fits f.name) Tryz.underlying40 k140 (by omega) (fun y=>by simp[AV.atom]) (fun cs x h=>rdFld h) h2';obtain⟨l3,v3,e3,r3,f3,q3⟩:=kh (en:=qR) (good:=fun b=>Fits b.name/\Fits b.items/\∀ x∈b.items,yF x) Tryz.underlying41 k52 (by omega) (fun y=>by simp[AV.atom]) (fun cs x h=>rdBlc h) h3';cases e2;cases e3;refine⟨⟨s0.data.toList,s1.data.toList,l2,l3⟩,?_,⟨g0,g1,f2,f3,q2,q3⟩⟩;simp only[qn,qk];exact⟨_,_,rfl,wN,_,_,rfl,wN,_,_,rfl,r2,_,_,rfl,r3,rfl⟩
theorem rdAsk {n:Nat}{cs:List Value}{x:DataW H×List MemPlace}(h:DataW.trod enc Zp w base (fun _=>true) held n 27 cs=some x):∃ q:Ask,qk (KW w) (JJ q) cs/\HoldA q:=by
 obtain⟨m,rfl,hl,hf⟩:=vk Tryz.underlying27 h;rw[k27]at hl
 match cs,hl with
 | [a,b,c,d,e],_=>
  obtain⟨y0,h0⟩:=hf 0 _ rfl;obtain⟨y1,h1⟩:=hf 1 _ rfl;obtain⟨y2,h2⟩:=hf 2 _ rfl;obtain⟨y3,h3⟩:=hf 3 _ rfl;obtain⟨y4,h4⟩:=hf 4 _ rfl;have h0:DataW.trod enc Zp w base (fun _=>true) held m 22 (List.take (Zp.cellsOf 22) (List.drop 0 [a,b,c,d,e]))=some y0:=h0;rw[k22]at h0;have h1:DataW.trod enc Zp w base (fun _=>true) held m 9 (List.take (Zp.cellsOf 9) (List.drop 1 [a,b,c,d,e]))=some y1:=h1;rw[k9]at h1;have h2:DataW.trod enc Zp w base (fun _=>true) held m 23 (List.take (Zp.cellsOf 23) (List.drop 2 [a,b,c,d,e]))=some y2:=h2;rw[k23]at h2;have h3:DataW.trod enc Zp w base (fun _=>true) held m 24 (List.take (Zp.cellsOf 24) (List.drop 3 [a,b,c,d,e]))=some y3:=h3;rw[k24]at h3;have h4:DataW.trod enc Zp w base (fun _=>true) held m 25 (List.take (Zp.cellsOf 25) (List.drop 4 [a,b,c,d,e]))=some y4:=h4;rw[k25]at h4;obtain⟨s1,rfl,g1⟩:=Jp (c:=b) h1;obtain⟨l2,r2,f2,g2⟩:=qjG (c:=c) h2;have h0':DataW.trod enc Zp w base (fun _=>true) held m 22 [a]=some y0:=h0;have h3':DataW.trod enc Zp w base (fun _=>true) held m 24 [d]=some y3:=h3;have h4':DataW.trod enc Zp w base (fun _=>true) held m 25 [e]=some y4:=h4
  cases m with
  | zero=>simp[DataW.trod]at h0'
  | succ m=>
   obtain⟨l0,v0,e0,r0,f0,g0⟩:=kh (en:=qn) (good:=HoldC) Tryz.underlying22 k43 (by omega) (fun y=>by simp[AV.atom]) (fun cs x h=>rdCls h) h0';obtain⟨l3,v3,e3,r3,f3,g3⟩:=kh (en:=qK) (good:=yF) Tryz.underlying24 k68 (by omega) (fun y=>⟨yY y,yy y⟩) (fun cs x h=>rdIt m m (qrn _) h) h3';obtain⟨l4,v4,e4,r4,f4,g4⟩:=kh (en:=qD) (good:=fun s=>Fits s.name) Tryz.underlying25 k107 (by omega) (fun y=>by simp[AV.atom]) (fun cs x h=>rdSig h) h4';cases e0;cases e3;cases e4;refine⟨⟨l0,s1.data.toList,l2,l3,l4⟩,?_,⟨f0,g0,g1,f2,g2,f3,g3,f4,g4⟩⟩;simp only[JJ,qk];exact⟨_,_,rfl,r0,_,_,rfl,wN,_,_,rfl,r2,_,_,rfl,r3,_,_,rfl,r4,rfl⟩
end
end
theorem qbx:∀ e,vG e->PZ 261 [.agg (qz e)] (.agg (qz e)):=by
 refine Ex.ind fun e ih hs=>?_
 refine Pure.k qg Tryz.func261 rfl (by kernel_rfl) ?_;have hfa:=hs.self;simp[qa e];refine qv.list e.args (fun d ev O=>ev 1=.ptr 0 0/\ev 2=.ptr 1 0/\ev 3=ye 4 qz 0 d/\ev 7=.sl 4 (e.args.map qz) .none/\ev 8=I_ e.args.length/\ev 9=I_ d.length/\∃ t,O=⟨.cells (qz e)::.cells [I_ 0,I_ 0,.str [],.sl 0 [] .nil]::t,zG [] d⟩) (by simp[qa e]) ?_ ?_
 . rintro d a r ev O hd hv hlt ⟨h1,h2,h3,h7,h8,h9,⟨t,rfl⟩⟩;have hv':=(qqV.1 hv).2;have hm:=qqW hv;have ih:=ih a hm (hs.arg hm);have happ:∀ H,qt (Dof Zp) ⟨H,zG [] d⟩ 32 (ye 4 qz 0 d) (.sl 4 [qz a] .tight)=some (ye 4 qz 0 (d++[a]),⟨H,zG [] (d++[a])⟩):=fun H=>
    zq (sz:=4) (T:=[]) (m:=[a]) D32 rfl D55 rfl (by omega) rfl (by decide) (by simp;omega) 4 (.inl rfl)
   rw[qa a]at happ ih;simp[h3,h7,h8,h9,hlt,hv',qa a];refine qd.call ih (by simp) ?_;simp[h1,h2,h7,h8,h9,happ];exact wr (by omega) (by omega)
 . rintro ev O ⟨h1,h2,h3,h7,h8,h9,⟨t,rfl⟩⟩;simp[h1,h2,h3,h8,h9,qa e]
theorem qbF (l:List Weight)(hl:l.length<=1000000):PZ 106 [.sl 4 (l.map zs) .none] (.sl 4 (l.map zs) .none):=by
 refine Pure.k qg Tryz.func106 rfl (by kernel_rfl) ?_
 cases l with
 | nil=>simp[qt]
 | cons a r=>
  have hb:r.length+1<=1073741824:=by simp at hl;omega
  simp[qt,hb]
theorem Ke (l:List Str)(hl:l.length<=1000000):PZ 245 [.sl 1 (l.map qs) .none] (.sl 1 (l.map qs) .none):=by
 refine Pure.k qg Tryz.func245 rfl (by kernel_rfl) ?_
 cases l with
 | nil=>simp[qt]
 | cons a r=>
  have hb:r.length+1<=1073741824:=by simp at hl;omega
  simp[qt,hb]
structure Low1 (x:It):Prop where
 slim:vG x.expr
 wen:Wen x.expr
 ws:x.ws.length<=1000
 items:x.items.length<=1000
 els:x.els.length<=1000
 before:x.before.length<=1000
 after:x.after.length<=1000
def W9 (x:It):Prop:=∀ y∈Zy x,Low1 y
theorem W9.self {x:It}(h:W9 x):Low1 x:=h x (by rw[qX];simp)
theorem W9.item {x y:It}(h:W9 x)(hy:y∈x.items):W9 y:=fun z hz=>h z (by rw[qX];exact qrk _ (qrD _ (qV.2 ⟨y,hy,hz⟩)))
theorem W9.els {x y:It}(h:W9 x)(hy:y∈x.els):W9 y:=fun z hz=>h z (by rw[qX];exact qrk _ (qrK _ (qV.2 ⟨y,hy,hz⟩)))
theorem Wg (l:List It)(hl:l.length<=1000)(h:∀ x∈l,Low1 x/\PZ 194 [.sl 12 (x.items.map qK) .none] (.sl 12 (x.items.map qK) .none)/\PZ 194 [.sl 12 (x.els.map qK) .none] (.sl 12 (x.els.map qK) .none)) :
 PZ 194 [.sl 12 (l.map qK) .none] (.sl 12 (l.map qK) .none):=by
 refine Pure.k qg Tryz.func194 rfl (by kernel_rfl) ?_;simp;refine qv.list l (fun d ev O=>ev 3=ye 12 qK 0 d/\ev 6=.sl 12 (l.map qK) .none/\ev 7=I_ l.length/\ev 8=I_ d.length/\∃ t,O=⟨t,zG [] d⟩) (by simp) ?_ ?_
 . rintro d v r ev O hd hv hlt ⟨h3,h6,h7,h8,⟨t,rfl⟩⟩;have hv':=(qqV.1 hv).2;obtain⟨lo,p1,p2⟩:=h v (qqW hv);have hx:=qbx v.expr lo.slim;have hw:=qbF v.ws (by have:=lo.ws;omega);have hb:=Ke v.before (by have:=lo.before;omega);have ha:=Ke v.after (by have:=lo.after;omega);have happ:∀ H,qt (Dof Zp) ⟨H,zG [] d⟩ 24 (ye 12 qK 0 d) (.sl 12 [qK v] .tight)=some (ye 12 qK 0 (d++[v]),⟨H,zG [] (d++[v])⟩):=fun H=>
    zq (sz:=12) (T:=[]) (m:=[v]) D24 rfl D68 rfl (by omega) rfl (by decide) (by simp;omega) 12 (.inl rfl)
   simp only[ql,qa,qrd,qrh]at happ;rw[qa]at hx;simp[h6,h7,h8,hlt,hv',ql,qa];refine qd.call hx (by simp) ?_;simp;refine qd.call hw (by simp) ?_;simp;refine qd.call p1 (by simp) ?_;simp;refine qd.call p2 (by simp) ?_;simp;refine qd.call hb (by simp) ?_;simp;refine qd.call ha (by simp) ?_;simp[happ,h3,h6,h7,h8];exact wr (by omega) (by omega)
 . rintro ev O ⟨h3,h6,h7,h8,⟨t,rfl⟩⟩;simp[h3,h7,h8]
theorem qkw:∀ x,W9 x->PZ 194 [.sl 12 (x.items.map qK) .none] (.sl 12 (x.items.map qK) .none)/\PZ 194 [.sl 12 (x.els.map qK) .none] (.sl 12 (x.els.map qK) .none) :=
 It.ind fun x h1 h2 hl=>⟨Wg x.items hl.self.items fun y hy=>⟨(hl.item hy).self,h1 y hy (hl.item hy)⟩,Wg x.els hl.self.els fun y hy=>⟨(hl.els hy).self,h2 y hy (hl.els hy)⟩⟩
theorem qni (l:List It)(hl:l.length<=1000)(h:∀ x∈l,W9 x):PZ 194 [.sl 12 (l.map qK) .none] (.sl 12 (l.map qK) .none) :=
 Wg l hl fun x hx=>⟨(h x hx).self,qkw x (h x hx)⟩
theorem qpq (x y:Fld):PZ 193 [.agg (q8 y),.rptr (q8 x)] (.bool (y.name==x.name)):=by
 refine Pure.k qg Tryz.func193 rfl (by kernel_rfl) ?_;simp
theorem qpp (x y:Blc):PZ 195 [.agg (qR y),.rptr (qR x)] (.bool (y.name==x.name)):=by
 refine Pure.k qg Tryz.func195 rfl (by kernel_rfl) ?_;simp
def qge:List (Nat×Sch×List Nat):=[(7,.step 0 [12,11,10,9] (.step 1 [12,11,10,9,8,5,4,3,2] (.step 2 [12,11,10,9,8,5,4,3] (.step 3 [12,11,10,9,8,5,4] (.step 4 [12,11,10,9,8,5] (.step 5 [12,11,10,9,8] (.step 6 [12,11,10,9,8,7] (.step 7 [12,11,10,9,8] (.step 8 [12,11,10,9] (.step 9 [12,11,10] (.step 10 [12,11] (.step 11 [12] (.step 12 [] (.done))))))))))))),[]),(14,.step 0 [8,7,4,3,2,1] (.step 1 [8,7,4,3,2] (.step 2 [8,7,4,3] (.step 3 [8,7,4] (.step 4 [8,7] (.step 5 [8,7] (.step 6 [8,7] (.step 7 [8] (.step 8 [] (.done))))))))),[]),(15,.step 0 [12,11,10,9] (.step 1 [12,11,10,9,8,5,4,3,2] (.step 2 [12,11,10,9,8,5,4,3] (.step 3 [12,11,10,9,8,5,4] (.step 4 [12,11,10,9,8,5] (.step 5 [12,11,10,9,8] (.step 6 [12,11,10,9,8,7] (.step 7 [12,11,10,9,8] (.step 8 [12,11,10,9] (.step 9 [12,11,10] (.step 10 [12,11] (.step 11 [12] (.step 12 [] (.done))))))))))))),[])]
def qg1 (H:List Blk)(b fb bb:Nat)(s:Cls×Bool):Prop :=
 ∃ fv bv,H[b]?=some (.cells [.str s.1.name,.str s.1.parent,fv,bv,.bool s.2])/\zi fb 5 q8 H fv s.1.fields/\zi bb 2 qR H bv s.1.blocks
theorem fld1 {l:List Fld}(h:l≠[]):∃ n,(l.flatMap q8)[1]?=some (I_ n):=by
 match l,h with
 | f::r,_=>exact⟨f.width,by simp⟩
theorem blc1 {l:List Blc}(h:l≠[]):∃ n,(l.flatMap qR)[1]?=some (.sl 12 n .none):=by
 match l,h with
 | f::r,_=>exact⟨f.items.map qK,by simp⟩
theorem qcH {H:List Blk}{b fb:Nat}{n p:Str}{x y z fv:AV}{l:List Fld}(hb:H[b]?=some (.cells [.str n,.str p,x,y,z]))(hf:zi fb 5 q8 H fv l)(hl:l≠[]):fb≠b:=by
 obtain⟨m,hm⟩:=fld1 hl;refine WZ (hf.at hl).2 hb ?_;rw[hm];simp
theorem qcI {H:List Blk}{b fb:Nat}{n p:Str}{x y z fv:AV}{l:List Blc}(hb:H[b]?=some (.cells [.str n,.str p,x,y,z]))(hf:zi fb 2 qR H fv l)(hl:l≠[]):fb≠b:=by
 obtain⟨m,hm⟩:=blc1 hl;refine WZ (hf.at hl).2 hb ?_;rw[hm];simp
theorem qhX {H:List Blk}{fb bb:Nat}{fv bv:AV}{l:List Fld}{k:List Blc}(hf:zi fb 5 q8 H fv l)(hb:zi bb 2 qR H bv k)(hl:l≠[])(hk:k≠[]):fb≠bb:=by
 obtain⟨m,hm⟩:=fld1 hl;obtain⟨m',hm'⟩:=blc1 hk;refine WZ (hf.at hl).2 (hb.at hk).2 ?_;rw[hm,hm'];simp
def Fr3 (H:List Blk)(b fb bb:Nat)(s:Cls×Bool)(H':List Blk):Prop:=H.length<=H'.length/\∀ (k:Nat) (x:Blk),H[k]?=some x->k≠b->(s.1.fields=[]\/k≠fb)->(s.1.blocks=[]\/k≠bb)->H'[k]?=some x
theorem qkX (c:Cls)(s:Cls×Bool)(O:St)(b fb bb:Nat)(hfl:c.fields.length+s.1.fields.length<=100000)(hbl:c.blocks.length+s.1.blocks.length<=100000)(hit:∀ x∈c.blocks,x.items.length<=1000/\∀ y∈x.items,W9 y)
 (hs:qg1 O.H b fb bb s):qq Zp GG 122 [.ptr b 0,.agg (qn c)] O (fun _ O'=>∃ fb' bb',qg1 O'.H b fb' bb' (qab c s)/\Fr3 O.H b fb bb s O'.H/\O'.T=O.T):=by
 refine qq.kO ⟨true,qge,[],[]⟩ qg Tryz.func122 rfl (by kernel_rfl) ?_;obtain⟨H,T⟩:=O;obtain⟨fv,bv,hb,hf,hbk⟩:=hs;simp only at hb hf hbk;have hbl':=(qqV.1 hb).1;have hfit:Fits c.fields:=by unfold Fits;omega
 simp[-getElem?_pos,qb hb,zV hb,qoK];refine qv.list c.fields (fun d ev O=>ev 0=.ptr b 0/\ev 3=.ptr H.length 0/\ev 16=sF c.fields/\ev 17=I_ c.fields.length/\ev 18=I_ d.length /\
  ∃ H',O=⟨H',T⟩/\H'[b]?=some (.cells [.str c.name,.str s.1.parent,fv,bv,.bool (s.2||jW s.1.fields d)])/\H'[H.length]?=some (.cells (qn c))/\Kp H b H') ?_ ?_ ?_
 . refine⟨by simp,by simp,by simp,by simp,by simp,_,rfl,?_,?_,?_⟩
   . rw[kL hb];simp[jW]
   . rw[qoK];rfl
   . exact Kp.set
 . rintro d v r ev O hd hv hlt ⟨h0,h3,h16,h17,h18,H',rfl,hb',hn0,hkp⟩;have hv':=(qqV.1 hv).2;have hf':=hf.keep fun x hl hx=>hkp.2 _ x hx (qcH hb hf hl)
   have hcl:jW s.1.fields (d++[v])=(jW s.1.fields d||s.1.fields.any fun y=>y.name==v.name):=(by simp[jW]);simp[-getElem?_pos,h0,h3,h16,h17,h18,hlt,hv,qb hb',zV hb'];have post:∀ (q:Bool) (x:List AV) (t:List Blk),q=(s.2||jW s.1.fields (d++[v]))->∃ H2,(⟨H'.set b (.cells [.str c.name,.str s.1.parent,fv,bv,.bool q])++t,T⟩:St)=⟨H2,T⟩/\H2[b]?=some (.cells [.str c.name,.str s.1.parent,fv,bv,.bool (s.2||jW s.1.fields (d++[v]))])/\H2[H.length]?=some (.cells (qn c))/\Kp H b H2:=fun q x t hq=>
    ⟨_,rfl,by rw[kL hb',hq],jh hn0 (by omega),hkp.trans Kp.set⟩
   refine⟨fun e1 e2=>?_,fun e=>?_⟩
   . refine qd.lent (args':=[sF s.1.fields,.fn 193 [] [.rptr (q8 v)]]) (WP GG s.1.fields (fun y=>y.name==v.name) 193 [] [.rptr (q8 v)] (by unfold Fits;omega) rfl (by simp) fun y _=>qpq v y) rfl ?_ ?_
     . have q:=(hf'.keep (H':=H'++[.cells (q8 v)]) fun x _ hx=>qb hx _).frz (fun x=>by simp) (fun x=>by simp) (fun x=>by simp) 7;simp only[qqZ,qq9,zt,and_true];refine⟨by simpa using q,?_⟩;simp[frz]
     . simp[-getElem?_pos,h0,h3,h16,h17,h18,qb hb',zV hb'];refine⟨wr (by omega) (by omega),?_⟩;simpa using post _ [] _ (by rw[hcl,e1,e2];simp)
   . refine⟨wr (by omega) (by omega),?_⟩;simpa using post true [] _ (by rw[hcl];revert e;cases s.2<;>cases jW s.1.fields d<;>simp)
 . rintro ev O ⟨h0,h3,h16,h17,h18,H',rfl,hb',hn0,hkp⟩;have hf':=hf.keep fun x hl hx=>hkp.2 _ x hx (qcH hb hf hl)
   have hk':=hbk.keep fun x hl hx=>hkp.2 _ x hx (qcI hb hbk hl)
   simp[-getElem?_pos,h17,h18];rw[zJ rfl];simp[-getElem?_pos,zR,h0,h3,hb',hn0];obtain⟨fv2,fb2,H2,hY,hf2,hfb2,hk2,hl2⟩:=hf'.appendK (P:=Zp) (G:=GG) (o:=⟨true,qge,[],[]⟩) (T:=T) (m:=c.fields) (tok:=.none) D40 rfl D140 rfl (by omega) rfl (by decide) (fun x=>rfl) (by omega);have hb2:=hk2 _ _ hb' (by
    by_cases e:s.1.fields=[]
    . exact .inl e
    . exact .inr (Ne.symm (qcH hb' hf' e)))
   have hn2:=hk2 _ _ hn0 (by
    by_cases e:s.1.fields=[]
    . exact .inl e
    . have:=hf.lt e;exact .inr (by omega))
   have hac:=hf2.acells;simp[-getElem?_pos,hY,h3,hb2,hac];have hn3:∀ y,(H2.set b y)[H.length]?=some (.cells (qn c)):=fun y=>by
    rw[qqX (by omega)];exact hn2
   simp[-getElem?_pos,hn3];refine qv.listR c.blocks (fun d ev O=>ev 0=.ptr b 0/\ev 52=sB c.blocks/\ev 53=I_ c.blocks.length/\ev 54=I_ d.length /\
    ∃ H3 bv3 bb3,O=⟨H3,T⟩/\H3[b]?=some (.cells [.str c.name,.str s.1.parent,fv2,bv3,.bool (s.2||jW s.1.fields c.fields)])/\zi fb2 5 q8 H3 fv2 (s.1.fields++c.fields)/\zi bb3 2 qR H3 bv3 (d.foldl JO s.1.blocks) /\
     (d.foldl JO s.1.blocks).length<=s.1.blocks.length+d.length/\H.length<=H3.length/\∀ (k:Nat) (x:Blk),H[k]?=some x->k≠b->(s.1.fields=[]\/k≠fb)->(s.1.blocks=[]\/k≠bb)->H3[k]?=some x/\(d.foldl JO s.1.blocks=[]\/k≠bb3)) ?_ ?_ ?_
   . refine⟨h0,by simp,by simp,by simp,H2.set b _,bv,bb,rfl,?_,?_,?_,by simp,by simpa using qrN hkp.1 hl2,fun k x hk h1 h2 h3=>⟨?_,h3⟩⟩
     . rw[qq4 (qqV.1 hb2).1]
     . exact hf2.keep fun x hl hx=>by rw[qqX (Ne.symm (qcH hb2 hf2 hl))];exact hx
     . exact hk'.keep fun x hl hx=>by
        rw[qqX (Ne.symm (qcI hb' hk' hl))];refine hk2 _ _ hx ?_;by_cases e:s.1.fields=[]
        . exact .inl e
        . exact .inr (Ne.symm (qhX hf' hk' e hl))
     . rw[qqX (Ne.symm h1)];exact hk2 _ _ (hkp.2 _ _ hk h1) h2
   . clear h0 h3 h16 h17 h18;rintro d v r ev O R hR hd hv hlt ⟨h0,h52,h53,h54,H3,bv3,bb3,rfl,hb3,hf3,hbb3,hln,hle3,hk3⟩;have hvm:=qqW hv;obtain⟨hi1,hi2⟩:=hit v hvm;generalize hL:d.foldl JO s.1.blocks=L at hbb3 hln hk3;have hLn:L.length<=100000:=(by omega);simp[-getElem?_pos,h52,h53,h54,hlt,hv];refine qd.call (qni v.items hi1 hi2) (by simp) ?_;simp[-getElem?_pos,h0,qb hb3];have hbB:=hbb3.keep (H':=H3++[.cells (qR v)]) fun x _ hx=>qb hx _
     refine qd.lent (args':=[sB L,.fn 195 [] [.rptr (qR v)]]) (YA GG L (fun y=>y.name==v.name) 195 [] [.rptr (qR v)] (by unfold Fits;omega) rfl (by simp) fun y _=>qpp v y) rfl ?_ ?_
     . have q:=hbB.frz (fun x=>by simp) (fun x=>by simp) (fun x=>by simp) 7;simp only[qqZ,qq9,zt,and_true];refine⟨by simpa using q,?_⟩;simp[frz]
     have hput2:JO L v=if 0<=qF (fun y:Blc=>y.name==v.name) L 0 then L.set (qF (fun y:Blc=>y.name==v.name) L 0).toNat v else L++[v]:=rfl
     have hrng:=yn (p:=fun y:Blc=>y.name==v.name) (l:=L) (i:=0) (qso 0);have hfold:(d++[v]).foldl JO s.1.blocks=JO L v:=(by rw[qsL,hL];rfl);generalize qF (fun y:Blc=>y.name==v.name) L 0=r at hput2 hrng ⊢;by_cases hr:0<=r
     . rw[if_pos hr]at hput2;obtain⟨n,rfl⟩:=qrj hr;have hn:n<L.length:=(by have:=(hrng hr).2;omega);have hne:L≠[]:=(by rintro rfl;simp at hn);obtain⟨rfl,hbc⟩:=hbb3.at hne;have hms:(n:Int)<L.length:=(by omega);simp[-getElem?_pos,hr];rw[zJ rfl];simp[-getElem?_pos,zR,h0,qb hb3,hms,qb hbc];have hle:n*2+2<=(L.map fun _=>2).sum:=by
        have:∀ l:List Blc,(l.map fun _=>2).sum=l.length*2:=fun l=>by
         induction l with
         | nil=>rfl
         | cons a r ih=>simp[ih];omega
        rw[this];omega
       have hp3:((L.flatMap qR).set (n*2) (.str v.name)).set (n*2+1) (sI v.items)=(L.set n v).flatMap qR:=Q9 (en:=qR) (fun x=>rfl) L n v hn;simp[-getElem?_pos,hle,hp3,zV hbc,h54];have hb3n:=qcI hb3 hbb3 hne;refine hR _ _ ⟨h0,h52,h53,by simp;exact wr (by omega) (by omega),_,.ms bb3 0 L.length 2,bb3,rfl,?_,?_,?_,?_,?_,?_⟩
       . exact jh hb3 (Ne.symm hb3n)
       . exact hf3.keep fun x hl hx=>jh hx (qhX hf3 hbb3 hl hne)
       . rw[hfold,hput2];exact .inr ⟨by simp[hne],by simp,kL hbc⟩
       . rw[hfold,hput2];simp;omega
       . simp;omega
       . intro k x hk h1 h2 h3;obtain⟨q1,q2⟩:=hk3 k x hk h1 h2 h3;have q3:=q2.resolve_left hne;exact⟨jh q1 q3,.inr q3⟩
     . rw[if_neg hr]at hput2;simp[-getElem?_pos,hr];rw[zJ rfl];simp[-getElem?_pos,zR,h0,qb hb3];obtain⟨bv4,H5,happ,hbb4,hk5,hl5⟩:=hbB.append (D:=Dof Zp) (T:=T) (m:=[v]) (tok:=.tight) D41 rfl D52 rfl (by omega) rfl (by decide) (fun x=>rfl) (by simp;omega) (by simp);have hb5:=hk5 _ _ (qb hb3 _) (by
        by_cases e:L=[]
        . exact .inl e
        . exact .inr (Ne.symm (qcI hb3 hbb3 e)))
       have hac4:=hbb4.acells;simp only[qqZ,qq9,qR]at happ;simp[-getElem?_pos,happ,h54,hb5,hac4];have hl5':H5.length=H3.length+1+1:=(by simpa using hl5);refine hR _ _ ⟨h0,h52,h53,by simp;exact wr (by omega) (by omega),_,bv4,(H3++[Blk.cells (qR v)]).length,rfl,?_,?_,?_,?_,?_,?_⟩
       rotate_left 2
       . rw[hfold,hput2];exact hbb4.keep fun x hl hx=>by rw[qqX (Ne.symm (qcI hb5 hbb4 hl))];exact hx
       . rw[hfold,hput2];simp;omega
       . simp;omega
       . intro k x hk h1 h2 h3;obtain⟨q1,q2⟩:=hk3 k x hk h1 h2 h3;have:=(qqV.1 q1).1;exact⟨by rw[qqX (Ne.symm h1)];exact hk5 _ _ (qb q1 _) q2,.inr (by simp;omega)⟩
       . rw[qq4 (qqV.1 hb5).1]
       . refine hf3.keep fun x hl hx=>?_
         rw[qqX (Ne.symm (qcH hb3 hf3 hl))];refine hk5 _ _ (qb hx _) ?_;by_cases e:L=[]
         . exact .inl e
         . exact .inr (qhX hf3 hbb3 hl e)
   . clear h0 h3;rintro ev O ⟨h0,h52,h53,h54,H3,bv3,bb3,rfl,hb3,hf3,hbb3,hln,hle3,hk3⟩;simp[-getElem?_pos,h53,h54];exact⟨⟨fb2,bb3,fv2,bv3,hb3,hf3,hbb3⟩,hle3,fun k x a b c d=>(hk3 k x a b c d).1⟩
theorem qfw (l:AV)(O:St)(hl:AV.atom l=true):qq Zp GG 121 [l] O (fun r O'=>r=.fn 191 [] [.ptr O.H.length 0]/\O'=O.push (.cells [l])):=by
 refine qq.k qg Tryz.func121 rfl (by kernel_rfl) ?_;have hac:acells l=some [l]:=by cases l<;>simp[AV.atom]at hl<;>rfl
 simp[-getElem?_pos,hac]
def qby (s:Cls×Bool):List AV:=[.str s.1.name,.str s.1.parent,sF s.1.fields,sB s.1.blocks,.bool s.2]
theorem qdc {α β:Type}(f:α->β->β)(z:β):∀ (l:List α) (i:Nat) (v:α),l[i]?=some v->(l.drop i).foldr f z=f v ((l.drop (i+1)).foldr f z):=fun l i v h=>by
 rw[zn h,List.foldr_cons]
theorem qdi (l:List Cls)(hll:l.length<=1000)(hc:∀ c∈l,c.fields.length<=50/\c.blocks.length<=50/\∀ b∈c.blocks,b.items.length<=1000/\∀ x∈b.items,W9 x):PZ 60 [sC l] (.rptr (qby (q7 l))):=by
 refine Pure.kO o0 true qg Tryz.func60 rfl (by kernel_rfl) ?_;simp[-getElem?_pos];refine qd.acall (qfw _ _ rfl) ?_;rintro v O' ⟨rfl,rfl⟩;simp[-getElem?_pos];refine qnh (gb:=191) (b:=2) (k:=4) (tok:=.none) l qn (fun i O=>∃ fb bb H,O=⟨H,[]⟩/\qg1 H 0 fb bb (q7 (l.drop i))/\H[1]?=some (.cells [.ptr 0 0])/\H[2]?=some (.cells [sC l])) (by simp[ev]) (bw191 GG) (by omega) ?_ ?_ ?_ ?_
 . refine⟨5,6,_,rfl,⟨.sl 0 [] .nil,.sl 0 [] .nil,?_,.inl ⟨by simp[q7,Z7],rfl⟩,.inl ⟨by simp[q7,Z7],rfl⟩⟩,rfl,rfl⟩;simp[q7,Z7]
 . rintro i O ⟨fb,bb,H,rfl,_,_,h2⟩;exact h2
 . rintro i c O hi ⟨fb,bb,H,rfl,hfl,hp1,hp2⟩;obtain⟨hc1,hc2,hc3⟩:=hc c (qqW hi);have hs:q7 (l.drop i)=qab c (q7 (l.drop (i+1))):=qdc qab _ l i c hi;have hb:=Ww (k:=50) (l:=l.drop (i+1)) fun x hx=>⟨(hc x (qsC hx)).1,(hc x (qsC hx)).2.1⟩
   have hlen:(l.drop (i+1)).length<=1000:=(by simp;omega);have hfl2:qg1 (H++[.cells (qn c)]) 0 fb bb (q7 (l.drop (i+1))):=by
    obtain⟨fv,bv,q1,q2,q3⟩:=hfl;exact⟨fv,bv,qb q1 _,q2.keep fun x _ hx=>qb hx _,q3.keep fun x _ hx=>qb hx _⟩
   have hcall:=qkX c (q7 (l.drop (i+1))) ⟨H++[.cells (qn c)],[]⟩ 0 fb bb (by omega) (by omega) hc3 hfl2;simp[-getElem?_pos,qb hp1];refine qd.acall hcall ?_;rintro v O' ⟨fb',bb',hf',hfr,hT⟩;simp[-getElem?_pos];obtain⟨H',T'⟩:=O';simp only at hT hf' hfr;subst hT;have keep:∀ (k:Nat) (y:List AV),H[k]?=some (.cells y)->k≠0->y[1]?=none->H'[k]?=some (.cells y):=fun k y hk h0 hy=>by
    obtain⟨fv,bv,q1,q2,q3⟩:=hfl2;refine hfr.2 k _ (qb hk _) h0 ?_ ?_
    . by_cases e:(q7 (l.drop (i+1))).1.fields=[]
      . exact .inl e
      . obtain⟨m,hm⟩:=fld1 e;exact .inr (WZ (qb hk _) (q2.at e).2 (by rw[hy,hm];simp))
    . by_cases e:(q7 (l.drop (i+1))).1.blocks=[]
      . exact .inl e
      . obtain⟨m,hm⟩:=blc1 e;exact .inr (WZ (qb hk _) (q3.at e).2 (by rw[hy,hm];simp))
   rw[hs];exact⟨fb',bb',H',rfl,hf',keep 1 _ hp1 (by omega) rfl,keep 2 _ hp2 (by omega) rfl⟩
 . rintro O ⟨fb,bb,H,rfl,⟨fv,bv,q1,q2,q3⟩,hp1,hp2⟩;rw[qsv]at q1 q2 q3;simp[-getElem?_pos,hp1];have e:frz H 8 (.ptr 0 0)=.rptr [.str (q7 l).1.name,.str (q7 l).1.parent,frz H 7 fv,frz H 7 bv,.bool (q7 l).2]:=by
    rw[qbo q1];simp[Qi,qnw]
   have a1:=q2.frzNo (fun x=>by simp) (fun x=>by simp) (fun x=>by simp) 6;have a2:=q3.frzNo (fun x=>by simp) (fun x=>by simp) (fun x=>by simp) 6;have b1:=q2.frz (fun x=>by simp) (fun x=>by simp) (fun x=>by simp) 6;have b2:=q3.frz (fun x=>by simp) (fun x=>by simp) (fun x=>by simp) 6;rw[e];simp[a1,a2,qby,Kg,b1,b2]
def wW (src:List Cls)(c:Cls):Bool:=!decide (c.parent=[])&&(yI src c.parent).isNone
theorem qm2 (src:List Cls)(hl:Fits src):PZ 190 [sC src] (I_ (QO src)):=by
 refine Pure.k qg Tryz.func190 rfl (by kernel_rfl) ?_;have hr:QO src=if Z3 Cls.name src=true then 8 else if src.any (wW src)=true then 7 else 0:=rfl
 generalize QO src=r at hr;simp[-getElem?_pos];refine qd.call (qev src hl) (by simp) ?_;cases h8:Z3 Cls.name src
 . rw[if_neg (by rw[h8];decide)]at hr;simp[-getElem?_pos];refine qv.list src (fun d ev O=>ev 0=sC src/\ev 9=sC src/\ev 10=I_ src.length/\ev 11=I_ d.length/\(∃ H,O=⟨H,[]⟩)/\∀ x∈d,wW src x=false) (by simp) ?_ ?_
   . rintro d v l ev O hd hv hlt ⟨h0,h9,h10,h11,⟨H,rfl⟩,hz⟩;simp[-getElem?_pos,h0,h9,h10,h11,hlt,hv];refine qd.call (qe9 src hl v.parent) (by simp) ?_;cases hb:wW src v
     . have hb':=hb;simp only[wW,qt4,qtx,decide_eq_true_eq,qtz]at hb';by_cases hp:v.parent=[]
       . simp[-getElem?_pos,h0,h9,h10,h11,hp];exact⟨wr (by omega) (by omega),Wk hz hb⟩
       . simp[-getElem?_pos,h0,h9,h10,h11,hp,hb'.resolve_left hp];exact⟨wr (by omega) (by omega),Wk hz hb⟩
     . rw[if_pos (qq2.2 ⟨v,qqW hv,hb⟩)]at hr;subst hr;simp only[wW,qq1,qsq,decide_eq_false_iff_not,qtG]at hb;simp[-getElem?_pos,h0,h9,h10,h11,hb.1,hb.2]
   . rintro ev O ⟨h0,h9,h10,h11,⟨H,rfl⟩,hz⟩;rw[if_neg (by rw[qq2];rintro⟨x,hx,h⟩;rw[hz x hx]at h;cases h)]at hr;subst hr;simp[-getElem?_pos,h10,h11]
 . rw[if_pos h8]at hr;subst hr;simp[-getElem?_pos]
structure LowC (c:Cls):Prop where
 nf:c.fields.length<=50
 nb:c.blocks.length<=50
 items:∀ b∈c.blocks,b.items.length<=1000/\∀ x∈b.items,W9 x
theorem LowC.z:LowC Z7:=⟨by simp,by simp,by simp⟩
theorem LowC.line {src:List Cls}(h:∀ c∈src,LowC c){c:Cls}(hc:LowC c):∀ x∈j4 src c,LowC x:=by
 intro x hx;unfold j4 at hx
 cases e:yE src src.length c with
 | none=>rw[e]at hx;simp at hx
 | some l=>
  rw[e]at hx;rcases qbP e x hx with rfl|h' | rfl
  . exact hc
  . exact h x h'
  . exact LowC.z
theorem qgn {src:List Cls}{c:Cls}:(j4 src c).length<=src.length+1:=by
 unfold j4
 cases e:yE src src.length c with
 | none=>simp
 | some l=>exact (qbQ e).2
def cl7 (src:List Cls)(c:Cls):Bool:=(q7 (j4 src c)).2
def lg8 (src:List Cls)(c:Cls):Bool:=Zz (q7 (j4 src c)).1
theorem qnY (src:List Cls)(hl:src.length<=900)(hc:∀ c∈src,LowC c):PZ 118 [sC src] (I_ (kq src)):=by
 refine Pure.k qg Tryz.func118 rfl (by kernel_rfl) ?_;have hfit:Fits src:=by unfold Fits;omega
 have hr:kq src=if 32<src.length then 2 else if qh ZX src≠0 then qh ZX src else if QO src≠0 then QO src
  else if src.any (fun c=>(yE src src.length c).isNone)=true then 10 else if src.any (cl7 src)=true then 8 else if src.any (lg8 src)=true then 2 else 0:=rfl
 generalize kq src=r at hr;by_cases h32:32<src.length
 . rw[if_pos h32]at hr;have:(32:Int)<src.length:=by omega
   subst hr;simp[-getElem?_pos,this]
 rw[if_neg h32]at hr;have:¬ (32:Int)<src.length:=by omega
 simp[-getElem?_pos,this];refine qv.list src (fun d ev O=>ev 0=sC src/\ev 17=sC src/\ev 18=I_ src.length/\ev 19=I_ d.length/\(∃ H,O=⟨H,[]⟩)/\∀ x∈d,ZX x=0) (by simp) ?_ ?_
 . rintro d v l ev O hd hv hlt ⟨h0,h17,h18,h19,⟨H,rfl⟩,hz⟩;have hcv:=hc v (qqW hv);simp[-getElem?_pos,h17,h18,h19,hlt,hv];refine qd.call (qi7 v (by have:=hcv.nf;unfold Fits;omega) (by have:=hcv.nb;unfold Fits;omega)) (by simp) ?_;by_cases h:ZX v=0
   . simp[-getElem?_pos,h,h0,h17,h18,h19];exact⟨wr (by omega) (by omega),Wk hz h⟩
   . have e:qh ZX src=ZX v:=(by rw[hd];exact ja hz h);rw[e,if_pos h]at hr;subst hr;simp[-getElem?_pos,h]
 . rintro ev O ⟨h0,h17,h18,h19,⟨H,rfl⟩,hz⟩;rw[if_neg (by rw[qr.2 hz];simp)]at hr;simp[-getElem?_pos,h0,h18,h19];refine qd.call (qm2 src hfit) (by simp) ?_;by_cases hn:QO src=0
   . rw[if_neg (by rw[hn];simp)]at hr;simp[-getElem?_pos,hn,h0];have h0':=h0;clear h0 h17 h18 h19;refine qv.list src (fun d ev O=>ev 0=sC src/\ev 34=sC src/\ev 35=I_ src.length/\ev 36=I_ d.length/\(∃ H,O=⟨H,[]⟩) /\
      (∀ x∈d,(yE src src.length x).isNone=false)/\ev 7=.bool (d.any (cl7 src))/\ev 8=.bool (d.any (lg8 src))) (by simp[h0']) ?_ ?_
     . rintro d v l ev O hd hv hlt ⟨h0,h34,h35,h36,⟨H,rfl⟩,hz,h7,h8⟩;have hcv:=hc v (qqW hv);simp[-getElem?_pos,h0,h34,h35,h36,hlt,hv];refine qd.call (W6 src (by omega) v) (by simp) ?_;generalize d.any (cl7 src)=A at h7 ⊢;generalize d.any (lg8 src)=B at h8 ⊢;have e7:(q7 (j4 src v)).2=cl7 src v:=rfl;have e8:lg8 src v=(decide (16<(q7 (j4 src v)).1.fields.length)||decide (16<(q7 (j4 src v)).1.blocks.length)):=rfl;cases ha:(yE src src.length v).isNone
       . have ha':(yE src src.length v).isSome=true:=(by cases h:yE src src.length v<;>simp_all);simp[-getElem?_pos,ha'];have hlow:=LowC.line hc hcv;refine qd.call (qdi (j4 src v) (by have:=qgn (src:=src) (c:=v);omega) fun c h=>⟨(hlow c h).nf,(hlow c h).nb,(hlow c h).items⟩) (by simp) ?_;simp[-getElem?_pos,qby,h0,h34,h35,h36,h7,h8];rw[e7,e8];have hw:IntKind.i64.wrap ((d.length:Int)+1)=d.length+1:=wr (by omega) (by omega);have hall:∀ x,x∈d\/x=v->(yE src src.length x).isSome=true:=by
          intro x hx;have:=Wk hz ha x hx;cases h:yE src src.length x<;>simp_all
         generalize (q7 (j4 src v)).1.fields.length=n1;generalize (q7 (j4 src v)).1.blocks.length=n2;have c1:decide ((16:Int)<n1)=decide (16<n1):=(by simp;omega);have c2:decide ((16:Int)<n2)=decide (16<n2):=(by simp;omega);cases A<;>cases B<;>simp[hw]<;>grind
       . rw[if_pos (qq2.2 ⟨v,qqW hv,ha⟩)]at hr;subst hr;have ha':(yE src src.length v).isSome=false:=(by cases h:yE src src.length v<;>simp_all);simp[-getElem?_pos,ha']
     . rintro ev O ⟨h0,h34,h35,h36,⟨H,rfl⟩,hz,h7,h8⟩;rw[if_neg (by rw[qq2];rintro⟨x,hx,h⟩;rw[hz x hx]at h;cases h)]at hr;generalize src.any (cl7 src)=A at h7 hr;generalize src.any (lg8 src)=B at h8 hr;simp[-getElem?_pos,h35,h36,h7,h8];cases A<;>cases B<;>simp at hr ⊢<;>exact hr.symm
   . rw[if_pos hn]at hr;subst hr;simp[-getElem?_pos,hn]
theorem line59 (src:List Cls)(hl:src.length<=900)(hc:∀ c∈src,LowC c)(name:Str):PZ 59 [sC src,.str name] (.tup [.sl 4 ((wc src name).map qn) .none,I_ (jR src name)]):=by
 refine Pure.k qg Tryz.func59 rfl (by kernel_rfl) ?_;have hfit:Fits src:=by unfold Fits;omega
 have hr:jR src name=if kq src≠0 then kq src else if (yI src name).isNone=true then 12 else 0:=rfl
 have hs:wc src name=if jR src name≠0 then [] else j4 src (yo src name):=rfl
 generalize wc src name=l at hs;generalize jR src name=r at hr hs;simp[-getElem?_pos];refine qd.call (qnY src hl hc) (by simp) ?_;by_cases h0:kq src=0
 . rw[if_neg (by rw[h0];simp)]at hr;simp[-getElem?_pos,h0];refine qd.call (qe9 src hfit name) (by simp) ?_
   cases hf:yI src name with
   | none=>
    rw[hf]at hr;simp at hr;subst hr;rw[if_pos (by decide)]at hs;subst hs;simp[-getElem?_pos]
   | some c=>
    rw[hf]at hr;simp at hr;subst hr;rw[if_neg (by decide)]at hs;subst hs;simp[-getElem?_pos];refine qd.call (W6 src (by omega) (yo src name)) (by simp) ?_;simp[-getElem?_pos]
 . rw[if_pos h0]at hr;subst hr;rw[if_pos h0]at hs;subst hs;simp[-getElem?_pos,h0]
theorem qcP {src:List Cls}(hc:∀ c∈src,LowC c)(name:Str):∀ x∈wc src name,LowC x:=by
 intro x hx;unfold wc at hx;split at hx
 . simp at hx
 . refine LowC.line hc ?_ x hx;rcases qdq (src:=src) (name:=name) with h|h
   . exact hc _ h
   . rw[h];exact LowC.z
theorem qkQ (src:List Cls)(hl:src.length<=900)(hc:∀ c∈src,LowC c)(name:Str):PZ 13 [sC src,.str name] (.tup [.agg (qn (qy src name)),I_ (jR src name)]):=by
 refine Pure.k qg Tryz.func13 rfl (by kernel_rfl) ?_;have hs:qy src name=if jR src name≠0 then Z7 else (q7 (wc src name)).1:=rfl
 generalize qy src name=c at hs;simp[-getElem?_pos];refine qd.call (line59 src hl hc name) (by simp) ?_;by_cases h0:jR src name=0
 . rw[if_neg (by rw[h0];simp)]at hs;subst hs;have hlow:=qcP hc name;simp[-getElem?_pos,h0];refine qd.call (qdi (wc src name) (by
    unfold wc;split
    . simp
    . have:=qgn (src:=src) (c:=yo src name);omega) fun c h=>⟨(hlow c h).nf,(hlow c h).nb,(hlow c h).items⟩) (by simp) ?_
   simp[-getElem?_pos,qby]
 . rw[if_pos h0]at hs;subst hs;simp[-getElem?_pos,h0]
section
attribute [local simp] acells fin zh ze pl1 plain pl2 AV.atom
def jj (l:List It):Int:=IntKind.i64.wrap (zA l).length
def ww (e:Ex):Bool:=decide (e.op=0)&&decide (e.n=0)&&decide (e.name=[])&&decide (e.args=[])
def wQ (k:Int):Bool:=decide (1<=k)&&decide (k<=6)
def wt (k:Int):Bool:=decide (k=1\/k=2\/k=4)
def K9 (k:Int):Bool:=decide (k=3\/k=5)
def yA (x:It):Bool :=
 (wt x.kind||ww x.expr)&&(K9 x.kind||decide (x.name=[]))&&(decide (x.kind=5)||decide (x.index=[]))&&(decide (x.kind=3)||decide (x.ws=[])) &&
 (decide (x.kind=4\/x.kind=5)||decide (x.items=[]))&&(decide (x.kind=4)||decide (x.els=[]))&&(decide (x.kind=6)||(decide (x.before=[])&&decide (x.after=[])))
def jk (l:List Weight):Int:=if 16<l.length then 2 else if l=[] then 1 else if l.any zo=true then 1 else 0
noncomputable def jD (x:It)(d:Nat):Int :=
 if wQ x.kind=false\/yA x=false\/4<d\/(0<d/\(x.kind=3\/x.kind=6)) then 1
 else if x.kind=3 then (if jk x.ws≠0 then jk x.ws else if js x.name=false then 7 else 0)
 else if x.kind=6 then (if x.before=[]\/x.after=[] then 1 else if (x.before++x.after).any (fun s=>!js s)=true then 7 else 0)
 else if x.kind=5 then (if qO x.name=false\/qO x.index=false then 7 else 0)
 else qM x.expr
structure Place where
 depth:Nat
 bound:List Str
def jx (x:It)(p:Place):Place:=if x.kind=4\/x.kind=5 then ⟨p.depth+1,p.bound⟩ else p
def ym (x:It)(p:Place):Place:=if x.kind=5 then ⟨p.depth+1,p.bound++[x.index]⟩ else jx x p
mutual
def qg8:Place->It->List (It×Place)
 | p,.mk k e n i w l m b a=>(.mk k e n i w l m b a,p)::(jl (ym (.mk k e n i w l m b a) p) l++jl (jx (.mk k e n i w l m b a) p) m)
def jl:Place->List It->List (It×Place)
 | _,[]=>[]
 | p,x::r=>qg8 p x++jl p r
end
theorem v8 (p:Place)(x:It):qg8 p x=(x,p)::(jl (ym x p) x.items++jl (jx x p) x.els):=by cases x;simp[qg8,It.items,It.els]
@[simp]theorem visIs_nil {p:Place}:jl p []=[]:=by simp[jl]
@[simp]theorem vH {p:Place}{x:It}{r:List It}:jl p (x::r)=qg8 p x++jl p r:=by simp[jl]
theorem Yq {p:Place}:∀ {l m:List It},jl p (l++m)=jl p l++jl p m
 | [],m=>by simp
 | x::r,m=>by simp[Yq (l:=r),qri]
theorem kl {p:Place}{l:List It}{y:It×Place}:y∈jl p l↔∃ x∈l,y∈qg8 p x:=by
 induction l with
 | nil=>simp
 | cons x r ih=>simp[ih]
theorem qbY (p:Place)(x:It):(x,p)∈qg8 p x:=by rw[v8];simp
noncomputable def yf (l:List It):Int:=if 64<jj l then 2 else qh (fun y=>jD y.1 y.2.depth) (jl ⟨0,[]⟩ l)
abbrev yB:=Str->Option Int
def qc (c:Cls):yB:=fun s=>(c.fields.find? fun f=>f.name==s).map Fld.size
noncomputable def Va (F:yB)(s:Str):Int:=match F s with
 | some n=>if 0<n then 9 else 0
 | none=>match yb s with
  | some (a,i)=>(match F a with | some n=>if n=0 then 9 else if n<=i then 7 else 0 | none=>7)
  | none=>7
def W4 (F:yB)(s:Str):Int:=match F s with
 | some n=>if n=0 then 9 else 0
 | none=>7
noncomputable def zL (F:yB)(s:Str):Int:=if (F s).isSome=true\/Va F s=0 then 0 else 7
noncomputable def Qu (F:yB)(b:List Str)(e:Ex):Int :=
 if e.op=2 then (if b.contains e.name=true then 0 else Va F e.name) else if e.op=3\/e.op=24 then W4 F e.name else 0
noncomputable def Ql (F:yB)(b:List Str)(e:Ex):Int:=qh (Qu F b) (pre e)
noncomputable def vT (F:yB)(x:It)(b:List Str):Int :=
 if x.kind=3 then zL F x.name
 else if x.kind=6 then qh (zL F) (x.before++x.after)
 else if x.kind=5 then (if W4 F x.name≠0 then W4 F x.name else if (F x.index).isSome=true\/b.contains x.index=true then 8 else 0)
 else Ql F b x.expr
noncomputable def jJ (F:yB)(l:List It):Int:=if yf l≠0 then yf l else qh (fun y=>vT F y.1 y.2.bound) (jl ⟨0,[]⟩ l)
mutual
def qZ (s:Str)(by':Ex):Ex->Ex
 | .mk o n t a=>if o=2/\t=s then by' else .mk o n t (Kx s by' a)
def Kx (s:Str)(by':Ex):List Ex->List Ex
 | []=>[]
 | e::r=>qZ s by' e::Kx s by' r
end
@[simp]theorem Vz (s:Str)(b:Ex):∀ l,Kx s b l=l.map (qZ s b)
 | []=>by simp[Kx]
 | e::r=>by simp[Kx,Vz s b r]
theorem kf (s:Str)(b e:Ex):qZ s b e=if e.op=2/\e.name=s then b else .mk e.op e.n e.name (e.args.map (qZ s b)):=by
 cases e;simp only[qZ,Vz];rfl
mutual
def qN (s:Str)(b:Ex):It->It
 | .mk k e n i w l m x y=>.mk k (qZ s b e) n i w (JV s b l) (JV s b m) x y
def JV (s:Str)(b:Ex):List It->List It
 | []=>[]
 | x::r=>qN s b x::JV s b r
end
@[simp]theorem Vy (s:Str)(b:Ex):∀ l,JV s b l=l.map (qN s b)
 | []=>by simp[JV]
 | e::r=>by simp[JV,Vy s b r]
theorem yg (s:Str)(b:Ex)(x:It):qN s b x=.mk x.kind (qZ s b x.expr) x.name x.index x.ws (x.items.map (qN s b)) (x.els.map (qN s b)) x.before x.after:=by
 cases x;simp only[qN,Vy];rfl
def zEx:Ex:=.mk 0 0 [] []
def zm (c:Option Ex)(op:Int)(e:Ex):Ex:=match c with
 | none=>e
 | some q=>.mk op 0 [] [q,e]
def YO (e:Ex):Ex:=.mk 4 0 [] [e]
def Zt (k:Int)(e:Ex):It:=.mk k e [] [] [] [] [] [] []
def zC (F:yB):Nat->Option Ex->It->List It
 | 0,_,_=>[]
 | h+1,c,x=>
  if x.kind=1\/x.kind=2 then [Zt x.kind (qZ [] zEx (zm c 21 x.expr))]
  else if x.kind=4 then x.items.flatMap (zC F h (some (zm c 19 x.expr)))++x.els.flatMap (zC F h (some (zm c 19 (YO x.expr))))
  else if x.kind=5 then (List.range ((F x.name).getD 0).toNat).flatMap fun (k:Nat)=>(x.items.map (qN x.index (.mk 1 (k:Int) [] []))).flatMap (zC F h c)
  else if x.kind=3 then [.mk 3 zEx x.name [] x.ws [] [] [] []]
  else if x.kind=6 then [.mk 6 zEx [] [] [] [] [] x.before x.after]
  else []
def qQ (F:yB)(h:Nat)(c:Option Ex)(l:List It):List It:=l.flatMap (zC F h c)
def YU (k:Int):Bool:=decide (k=1\/k=2)
noncomputable def qU (F:yB)(l:List It):Int :=
 if jJ F l≠0 then jJ F l
 else if 400<(qQ F 6 none l).length then 2
 else if (qQ F 6 none l).any (fun x=>YU x.kind&&!decide (qM x.expr=0))=true then 2
 else 0
noncomputable def kH (F:yB)(l:List It):List It:=if qU F l≠0 then [] else qQ F 6 none l
end
theorem qn2 (e:Ex):PZ 363 [.agg (qz e)] (.bool (ww e)):=by
 refine Pure.k qg Tryz.func363 rfl (by kernel_rfl) ?_;have hr:ww e=(decide (e.op=0)&&decide (e.n=0)&&decide (e.name=[])&&decide (e.args=[])):=rfl;simp only[qa];simp[-getElem?_pos];rw[hr];have hlen:(((e.args.length:Int)==0):Bool)=decide (e.args=[]):=by
  cases e.args with
  | nil=>rfl
  | cons a r=>simp;omega
 rw[hlen]
 repeat' first | (refine And.intro ?_ ?_) | (intro _)
 all_goals simp_all
theorem qg6 (l:List Weight)(hl:Fits l):PZ 313 [sW l] (I_ (jk l)):=by
 refine Pure.k qg Tryz.func313 rfl (by kernel_rfl) ?_;have hr:jk l=if 16<l.length then 2 else if l=[] then 1 else if l.any zo=true then 1 else 0:=rfl
 generalize jk l=r at hr;by_cases h1:(16:Int)<l.length
 . rw[if_pos (by omega)]at hr;subst hr;simp[-getElem?_pos,h1]
 . by_cases h2:l=[]
   . subst h2;simp at hr;subst hr;simp[-getElem?_pos]
   rw[if_neg (by omega),if_neg h2]at hr;simp[-getElem?_pos,h1,h2];refine qv.list l (fun d ev O=>ev 13=sW l/\ev 14=I_ l.length/\ev 15=I_ d.length/\(∃ H,O=⟨H,[]⟩)/\∀ x∈d,zo x=false) (by simp) ?_ ?_
   . rintro d v r' ev O hd hv hlt ⟨h13,h14,h15,⟨H,rfl⟩,hz⟩;have hbad:zo v=true->r=1:=fun h=>by rw[hr,if_pos (qq2.2 ⟨v,qqW hv,h⟩)]
     have hw:zo v=(decide (v.lo<0)||decide (v.hi<v.lo)||decide (65535<v.hi)||decide (v.weight<0)||decide (1000<v.weight)):=rfl;have hwr:IntKind.i64.wrap ((d.length:Int)+1)=d.length+1:=wr (by omega) (by omega);have hsn:zo v=false->∀ x,x∈d\/x=v->zo x=false:=Wk hz;simp[-getElem?_pos,h13,h14,h15,hlt,hv,hwr];rw[hw]at hbad hsn
     repeat' first | (refine And.intro ?_ ?_) | (intro _)
     all_goals first | (exact (hbad (by simp;omega)).symm) | (apply hsn<;>first | assumption | (simp;omega))
   . rintro ev O ⟨h13,h14,h15,⟨H,rfl⟩,hz⟩;rw[if_neg (by rw[qq2];rintro⟨x,hx,h⟩;rw[hz x hx]at h;cases h)]at hr;subst hr;simp[-getElem?_pos,h14,h15]
theorem QM:∀ {l m:List It},zA (l++m)=zA l++zA m
 | [],m=>by simp[zA]
 | x::r,m=>by simp[zA,QM (l:=r),qri]
theorem qiJ (n a b:Int):IntKind.i64.wrap (IntKind.i64.wrap n+IntKind.i64.wrap (IntKind.i64.wrap (1+IntKind.i64.wrap a)+IntKind.i64.wrap b))=IntKind.i64.wrap (n+(1+a+b)):=by
 simp[IntKind.wrap,IntKind.bits,IntKind.signed];omega
theorem qaJ (l:List It)(hl:Fits l)(h:∀ x∈l,PZ 243 [sI x.items] (I_ (jj x.items))/\PZ 243 [sI x.els] (I_ (jj x.els))) :
 PZ 243 [sI l] (I_ (jj l)):=by
 refine Pure.k qg Tryz.func243 rfl (by kernel_rfl) ?_;simp[-getElem?_pos];refine qv.list l (fun d ev O=>ev 3=I_ (jj d)/\ev 6=sI l/\ev 7=I_ l.length/\ev 8=I_ d.length/\∃ H,O=⟨H,[]⟩) (by simp[jj,zA,IntKind.wrap,IntKind.bits,IntKind.signed]) ?_ ?_
 . rintro d v r ev O hd hv hlt ⟨h3,h6,h7,h8,⟨H,rfl⟩⟩;obtain⟨p1,p2⟩:=h v (qqW hv);have hw:IntKind.i64.wrap (jj d+IntKind.i64.wrap (IntKind.i64.wrap (1+jj v.items)+jj v.els))=jj (d++[v]):=by
    unfold jj;rw[qiJ];congr 1;rw[QM];simp[zA,qX v];omega
   simp[-getElem?_pos,h3,h6,h7,h8,hlt,hv,ql,qa];refine qd.call p1 (by simp) ?_;simp[-getElem?_pos];refine qd.call p2 (by simp) ?_;simp[-getElem?_pos,h6,h7,h8,hw];exact wr (by omega) (by omega)
 . rintro ev O ⟨h3,h6,h7,h8,⟨H,rfl⟩⟩;simp[-getElem?_pos,h3,h7,h8]
theorem yF.itemB {x y:It}(h:yF x)(hy:y∈x.items):yF y:=fun z hz=>h z (by rw[qX];exact qrk _ (qrD _ (qV.2 ⟨y,hy,hz⟩)))
theorem yF.elsB {x y:It}(h:yF x)(hy:y∈x.els):yF y:=fun z hz=>h z (by rw[qX];exact qrk _ (qrK _ (qV.2 ⟨y,hy,hz⟩)))
theorem qmh:∀ x,yF x->PZ 243 [sI x.items] (I_ (jj x.items))/\PZ 243 [sI x.els] (I_ (jj x.els)) :=
 It.ind fun x h1 h2 hl=>⟨qaJ x.items (hl x (by rw[qX];simp)).items fun y hy=>h1 y hy (hl.itemB hy),qaJ x.els (hl x (by rw[qX];simp)).els fun y hy=>h2 y hy (hl.elsB hy)⟩
theorem qpj (l:List It)(hl:Fits l)(h:∀ x∈l,yF x):PZ 243 [sI l] (I_ (jj l)):=qaJ l hl fun x hx=>qmh x (h x hx)
theorem qmZ:∀ e,Wee e->(pre e).length<=1000000->PZ 253 [.agg (qz e)] (.sl 4 ((pre e).map qz) .none):=by
 refine Ex.ind fun e ih hw hn=>?_
 refine Pure.k qg Tryz.func253 rfl (by kernel_rfl) ?_;have hfa:=hw.fits;rw[zb]at hn ⊢;simp only[qq5]at hn;simp[-getElem?_pos,qa e];refine qv.list e.args (fun d ev O=>ev 1=.ptr 0 0/\ev 3=qiE 4 qz 0 [e] (ki d)/\ev 9=sE e.args/\ev 10=I_ e.args.length/\ev 11=I_ d.length/\∃ t,O=⟨t,zG [] (ki d)⟩) (by simp[qiE,qa e]) ?_ ?_
 . rintro d a r ev O hd hv hlt ⟨h1,h3,h9,h10,h11,⟨t,rfl⟩⟩;have hm:=qqW hv;have hle:(ki d).length+(pre a).length<=(ki e.args).length:=(by rw[hd,yO];simp);have ih:=ih a hm (hw.arg hm) (by omega);have happ:∀ H,qt (Dof Zp) ⟨H,zG [] (ki d)⟩ 32 (qiE 4 qz 0 [e] (ki d)) (.sl 4 ((pre a).map qz) .none)=some (qiE 4 qz 0 [e] (ki d++pre a),⟨H,zG [] (ki d++pre a)⟩):=fun H=>
    qfC (sz:=4) (T:=[]) (m:=pre a) D32 rfl D55 rfl (by omega) rfl (by decide) (by simp;omega) 4 (.inl rfl)
   rw[qa a]at ih;simp[-getElem?_pos,h3,h9,h10,h11,hlt,hv,qa a,yO];refine qd.call ih (by simp) ?_;simp[-getElem?_pos,h1,h9,h10,h11,happ];exact wr (by omega) (by omega)
 . rintro ev O ⟨h1,h3,h9,h10,h11,⟨t,rfl⟩⟩;have q:=qna (sz:=4) (en:=qz) (a:=[e]) (s:=ki e.args);simp[-getElem?_pos,h3,h10,h11];simpa[qa e] using q
theorem qhl (s:Str):decide (qM (.mk 2 0 s [])=0)=js s:=by
 have hp:pre (Ex.mk 2 0 s [])=[.mk 2 0 s []]:=by simp[zb]
 have hh:hgt (Ex.mk 2 0 s [])=1:=by simp[jo]
 unfold qM qaH;rw[hp,hh];simp[qh,qw,qm,zN,IntKind.wrap,IntKind.bits,IntKind.signed]
theorem qgt (s:Str)(hs:Fits s):PZ 314 [.str s] (.bool (js s)):=by
 refine Pure.k qg Tryz.func314 rfl (by kernel_rfl) ?_;have hp:pre (Ex.mk 2 0 s [])=[.mk 2 0 s []]:=by simp[zb]
 simp[-getElem?_pos];refine qd.less (QB (.mk 2 0 s []) (fun x hx=>by rw[hp]at hx;simp at hx;subst hx;exact⟨by simp[Fits],hs⟩) (by simp[jo])) (by simp) (by simp[qz]) ?_;simp[-getElem?_pos];rw[<- qhl];rfl
def yQ (k:Int):Option (List AV) :=
 if k=1 then some [.bool true,.bool false,.bool false,.bool false,.bool false,.bool false,.bool false]
 else if k=2 then some [.bool true,.bool false,.bool false,.bool false,.bool false,.bool false,.bool false]
 else if k=3 then some [.bool false,.bool true,.bool false,.bool true,.bool false,.bool false,.bool false]
 else if k=4 then some [.bool true,.bool false,.bool false,.bool false,.bool true,.bool true,.bool false]
 else if k=5 then some [.bool false,.bool true,.bool true,.bool false,.bool true,.bool false,.bool false]
 else if k=6 then some [.bool false,.bool false,.bool false,.bool false,.bool false,.bool false,.bool true]
 else none
def qgs:List (AV×AV×Nat):=[(I_ 1,.agg [.bool true,.bool false,.bool false,.bool false,.bool false,.bool false,.bool false],0),
 (I_ 2,.agg [.bool true,.bool false,.bool false,.bool false,.bool false,.bool false,.bool false],1),
 (I_ 3,.agg [.bool false,.bool true,.bool false,.bool true,.bool false,.bool false,.bool false],2),
 (I_ 4,.agg [.bool true,.bool false,.bool false,.bool false,.bool true,.bool true,.bool false],3),
 (I_ 5,.agg [.bool false,.bool true,.bool true,.bool false,.bool true,.bool false,.bool false],4),
 (I_ 6,.agg [.bool false,.bool false,.bool false,.bool false,.bool false,.bool false,.bool true],5)]
theorem qnc (O:St):qq Zp GG 311 [] O (fun r O'=>r=.map O.H.length/\O'=O.push (.map qgs 6)):=by
 refine qq.k qg Tryz.func311 rfl (by kernel_rfl) ?_;simp[-getElem?_pos,zQ,jc,wo,Qv];rfl
theorem vq {α:Type}{l:List α}:(((l.length:Int)==0):Bool)=decide (l=[]):=by
 cases l with
 | nil=>rfl
 | cons a r=>simp;omega
theorem qmI (x:It)(us:List AV)(h:yQ x.kind=some us)(hb:x.before.length<=1000)(ha:x.after.length<=1000):PZ 312 [.agg (qK x),.agg us] (.bool (yA x)):=by
 refine Pure.k qg Tryz.func312 rfl (by kernel_rfl) ?_;have hr:yA x=((wt x.kind||ww x.expr)&&(K9 x.kind||decide (x.name=[]))&&(decide (x.kind=5)||decide (x.index=[]))&&(decide (x.kind=3)||decide (x.ws=[])) &&
  (decide (x.kind=4\/x.kind=5)||decide (x.items=[]))&&(decide (x.kind=4)||decide (x.els=[]))&&(decide (x.kind=6)||(decide (x.before=[])&&decide (x.after=[])))):=rfl
 generalize yA x=r at hr;have hbl:=qn2 x.expr;have hw:IntKind.i64.wrap ((x.before.length:Int)+x.after.length)=x.before.length+x.after.length:=wr (by omega) (by omega);have hz:((x.before.length:Int)+x.after.length==0)=(decide (x.before=[])&&decide (x.after=[])):=by
  cases x.before<;>cases x.after<;>simp<;>omega
 rw[qa]at hbl;have hk:x.kind=1\/x.kind=2\/x.kind=3\/x.kind=4\/x.kind=5\/x.kind=6:=by
  unfold yQ at h;grind
 simp only[ql,qa];rcases hk with hk|hk|hk|hk|hk|hk
 . rw[hk]at h;simp[yQ]at h;subst h;simp[hk,wt,K9]at hr;simp[vq,hw,hz];grind
 . rw[hk]at h;simp[yQ]at h;subst h;simp[hk,wt,K9]at hr;simp[vq,hw,hz];grind
 . rw[hk]at h;simp[yQ]at h;subst h;simp[hk,wt,K9]at hr;simp;refine qd.call hbl (by simp) ?_;cases hB:ww x.expr
   . rw[hB]at hr;simp;simp at hr
     first | exact hr | exact hr.symm
   . rw[hB]at hr;simp[vq,hw,hz];grind
 . rw[hk]at h;simp[yQ]at h;subst h;simp[hk,wt,K9]at hr;simp[vq,hw,hz];grind
 . rw[hk]at h;simp[yQ]at h;subst h;simp[hk,wt,K9]at hr;simp;refine qd.call hbl (by simp) ?_;cases hB:ww x.expr
   . rw[hB]at hr;simp;simp at hr
     first | exact hr | exact hr.symm
   . rw[hB]at hr;simp[vq,hw,hz];grind
 . rw[hk]at h;simp[yQ]at h;subst h;simp[hk,wt,K9]at hr;simp;refine qd.call hbl (by simp) ?_;cases hB:ww x.expr
   . rw[hB]at hr;simp;simp at hr
     first | exact hr | exact hr.symm
   . rw[hB]at hr;simp[vq];grind
section
attribute [local simp] acells fin zh ze pl1 plain pl2 AV.atom
theorem qqn (n:Nat)(hn:n<=3000)(O:St):qq Zp GG 364 [.sl 0 [] .nil,.int .i64 n] O (fun r O'=>(n=0/\r=.sl 0 [] .nil/\O'=O)\/(0<n/\r=.ms O.H.length 0 0 1/\∃ c,O'=O.push (.cells c))):=by
 refine qq.vcO oM qg Tryz.func364 rfl (by kernel_rfl) ?_;have h1:¬ (n:Int)<0:=by omega
 have hw:IntKind.i64.wrap (n:Int)=n:=wr (by omega) (by omega);have w0:IntKind.i64.wrap 0=0:=by decide
 by_cases h0:n=0
 . subst h0;simp[qoG,w0]
 . have h2:(0:Int)<n:=(by omega);have h3:0<n:=(by omega);have h4:(n:Int)<=1073741824:=(by omega);simp[qoG,h1,hw,w0,h2,h3,h4,jg,jp,Jb,kK,z6,yv,zw]
def CRs (T R:List Str)(v:AV)(O:St):Prop:=(T=[]/\v=.sl 0 [] .nil)\/∃ b c,v=.ms b 0 R.length 1/\O.H[b]?=some (.cells c)/\R.length*1<=c.length/\c.take (R.length*1)=(R.map qs).flatten
theorem Yd (e:Str):(qs e).length=1:=rfl
theorem Wu:∀ (l:List Str),((l.map qs).flatten).length=l.length*1
 | []=>rfl
 | a::r=>by simp only[qqZ,qrA,qqY,Yd,Wu r,qq5];omega
theorem WR:∀ (R:List Str) (c:List AV),R.length*1<=c.length->c.take (R.length*1)=(R.map qs).flatten->vE 1 R.length c=R.map qs
 | [],c,_,_=>rfl
 | a::r,c,hl,h=>by
  have e1:c.take 1=qs a:=by
   have:=congrArg (List.take 1) h;rw[List.take_take,qqZ,qrA,qsF (Yd a)]at this;rw[<- this];congr 1
   try (simp only[qq5];omega)
  have e2:(c.drop 1).take (r.length*1)=(r.map qs).flatten:=by
   have:=congrArg (List.drop 1) h;rw[qqZ,qrA,List.drop_left' (Yd a),qt3]at this;rw[<- this];congr 1
   try (simp only[qq5];omega)
  rw[qq5,vE,e1,WR r (c.drop 1) (by simp only[qtO,qq5]at hl ⊢;omega) e2,qqZ]
theorem qdW {T R X:List Str}{b:Nat}{c:List AV}{O:St}(hb:O.H[b]?=some (.cells c))(hl:R.length*1<=c.length)(h:c.take (R.length*1)=(R.map qs).flatten)(hR:R.length+X.length<=3000) :
 ∃ v' O',z6 (Dof Zp) O 23 23 (.ms b 0 R.length 1) (.sl 1 (X.map qs) .none)=some (v',O')/\CRs T (R++X) v' O':=by
 cases X with
 | nil=>
  refine⟨.ms b 0 R.length 1,O,?_,.inr ⟨b,c,by simp,hb,by simpa using hl,by simpa using h⟩⟩;simp[z6,yv,zw,Abs.srcA]
 | cons x X=>
  refine⟨.ms O.H.length 0 (R.length+(X.length+1)) 1,{ O with H:=O.H.set b .dead++[.cells (c.take (R.length*1)++((x::X).map qs).flatten)] },?_,.inr ⟨O.H.length,c.take (R.length*1)++((x::X).map qs).flatten,by simp,by simp,?_,?_⟩⟩
  . have h1:R.length+(X.length+1)<=1073741824:=(by simp at hR;omega);have hl2:R.length<=c.length:=(by omega);simp[z6,yv,zw,Abs.srcA,hb,h1,hl2]
  . rw[h];simp only[qqY,Wu];omega
  . rw[h,qrb (by simp only[qqY,Wu];omega),qrf,qst]
theorem qdL (h s:List Str)(hh:h.length<=1000)(hs:s.length<=1000):PZ 315 [.sl 1 [[.sl 1 (h.map qs) .none],[.sl 1 (s.map qs) .none]] .none] (.sl 1 ((h++s).map qs) .none):=by
 refine Pure.vcO oM false qg Tryz.func315 rfl (by kernel_rfl) ?_;have w1:IntKind.i64.wrap (h.length:Int)=h.length:=wr (by omega) (by omega);have w2:IntKind.i64.wrap ((h.length:Int)+s.length)=h.length+s.length:=wr (by omega) (by omega);have n1:¬ (h.length:Int)<0:=by omega
 have n2:¬ (h.length:Int)+s.length<0:=by omega
 have wi:IntKind.i64.wrap 1=1:=by decide
 have wi2:IntKind.i64.wrap 2=2:=by decide
 simp;refine qC.intro (fun n env O=>∃ i:Nat,i<=2/\n=2-i/\env 0=.sl 1 [[.sl 1 (h.map qs) .none],[.sl 1 (s.map qs) .none]] .none/\env 3=.int .i64 (if i=0 then 0 else if i=1 then h.length else h.length+s.length)/\env 9=.sl 1 [[.sl 1 (h.map qs) .none],[.sl 1 (s.map qs) .none]] .none/\env 10=.int .i64 2/\env 11=.int .i64 i/\O=⟨[],[]⟩) 2 ⟨0,by simp⟩ ?_;rintro n env O ⟨i,hi,rfl,h0,h3,h9,h10,h11,rfl⟩;have hcase:i=0\/i=1\/i=2:=by omega
 rcases hcase with rfl|rfl|rfl
 . simp[h0,h3,h9,h10,h11,w1,n1,wi];exact⟨1,by omega,1,by omega,rfl,rfl,rfl⟩
 . simp[h0,h3,h9,h10,h11,w2,n2,wi2];exact⟨2,by omega,by omega,rfl,rfl⟩
 . have hN:((h.length:Int)+s.length)=((h.length+s.length:Nat):Int):=(by omega);simp[h0,h3,h9,h10,h11];rw[hN];refine qq.imp (qqn (h.length+s.length) (by omega) ⟨[],[]⟩) ?_;intro r O' hr;have hcr:CRs (h++s) [] r O':=by
    rcases hr with ⟨h1,h2,h3⟩|⟨h1,h2,c,h3⟩
    . exact .inl ⟨qrU (by rw[qqY];exact h1),h2⟩
    . subst h3;exact .inr ⟨0,c,h2,rfl,by simp,by simp⟩
   clear hr;refine qC.intro (fun n env O=>∃ i:Nat,i<=2/\n=2-i/\env 25=.sl 1 [[.sl 1 (h.map qs) .none],[.sl 1 (s.map qs) .none]] .none/\env 26=.int .i64 2/\env 27=.int .i64 i/\CRs (h++s) (if i=0 then [] else if i=1 then h else h++s) (env 6) O) 2 ⟨0,by simp[h0];exact hcr⟩ ?_;clear h0 h3 h9 h10 h11 hcr;rintro n env O ⟨i,hi,rfl,h25,h26,h27,hcr⟩;have hcase:i=0\/i=1\/i=2:=(by omega);rcases hcase with rfl|rfl|rfl
   . simp only[if_true]at hcr;rcases hcr with ⟨ht,h6⟩|⟨b,c,h6,hb,hl,hc⟩
     . simp only[qsu]at ht;obtain⟨rfl,rfl⟩:=ht;simp[h25,h26,h27,h6,wi,z6,yv,qt,zw,Abs.srcA,zD];exact⟨1,by omega,1,by omega,rfl,rfl,.inl ⟨rfl,rfl⟩⟩
     . obtain⟨v',O',e1,e2⟩:=qdW (T:=h++s) (X:=h) hb hl hc (by simp;omega);simp only[qrt]at h6 e1;simp[h25,h26,h27,h6,wi,e1];exact⟨1,by omega,1,by omega,rfl,rfl,by simpa using e2⟩
   . simp only[Nat.one_ne_zero,if_false,if_true]at hcr;rcases hcr with ⟨ht,h6⟩|⟨b,c,h6,hb,hl,hc⟩
     . simp only[qsu]at ht;obtain⟨rfl,rfl⟩:=ht;simp[h25,h26,h27,h6,wi2,z6,yv,qt,zw,Abs.srcA,zD];exact⟨2,by omega,by omega,rfl,.inl ⟨rfl,rfl⟩⟩
     . obtain⟨v',O',e1,e2⟩:=qdW (T:=h++s) (X:=s) hb hl hc (by omega);simp[h25,h26,h27,h6,wi2,e1];exact⟨2,by omega,by omega,rfl,by simpa using e2⟩
   . simp only[show ¬ (2:Nat)=0 by omega,show ¬ (2:Nat)=1 by omega,if_false]at hcr;rcases hcr with ⟨ht,h6⟩|⟨b,c,h6,hb,hl,hc⟩
     . simp only[qsu]at ht;obtain⟨rfl,rfl⟩:=ht;simp[h25,h26,h27,h6]
     . have hk:=WR (h++s) c hl hc;simp only[qqY,Nat.mul_one]at hk hl;rw[qqY]at h6;simp[h25,h26,h27,h6,hb,hl,hk,zd]
end
def kp (p:Place):List AV:=[I_ p.depth,sS p.bound]
def qmE:List (Nat×Sch×List Nat):=[(1,.step 1 [9,8,6,5,4,3,2] (.fork (.cons 0 (.step 2 [9,8,6,5,4,3] (.step 3 [9,8,6,5,4] (.step 4 [9,8,6,5] (.step 5 [9,8] (.step 6 [9] (.step 7 [9,8] (.step 8 [9] (.step 9 [] (.done))))))))) (.cons 2 (.fork (.cons 0 (.step 3 [9,8,6,5,4] (.step 4 [9,8,6,5] (.step 5 [9,8] (.step 6 [9] (.step 7 [9,8] (.step 8 [9] (.step 9 [] (.done)))))))) (.cons 7 (.step 0 [9,8,6,5,4,3] (.step 3 [9,8,6,5,4] (.step 4 [9,8,6,5] (.step 5 [9,8] (.step 6 [9] (.step 8 [9] (.step 9 [] (.done)))))))) (.nil)))) (.cons 7 (.fork (.cons 0 (.step 2 [9,8,6,5,4,3] (.step 3 [9,8,6,5,4] (.step 4 [9,8,6,5] (.step 5 [9,8] (.step 6 [9] (.step 8 [9] (.step 9 [] (.done)))))))) (.cons 2 (.step 0 [9,8,6,5,4,3] (.step 3 [9,8,6,5,4] (.step 4 [9,8,6,5] (.step 5 [9,8] (.step 6 [9] (.step 8 [9] (.step 9 [] (.done)))))))) (.nil)))) (.nil))))),[0])]
theorem qp7 {k:Int}{H:List Blk}{T:List (Option Nat)}{b:Nat}(hb:H[b]?=some (.map qgs 6)):yj (Dof Zp) ⟨H,T⟩ 311 (.map b) (I_ k) true=some (match yQ k with
 | some us=>.tup [.agg us,.bool true]
 | none=>.tup [.agg [.bool false,.bool false,.bool false,.bool false,.bool false,.bool false,.bool false],.bool false]):=by
 simp only[yj,D311,jc,D3,hb,qgs];by_cases h1:k=1
 . subst h1;rfl
 by_cases h2:k=2
 . subst h2;rfl
 by_cases h3:k=3
 . subst h3;rfl
 by_cases h4:k=4
 . subst h4;rfl
 by_cases h5:k=5
 . subst h5;rfl
 by_cases h6:k=6
 . subst h6;rfl
 have e1:(k==1)=false:=by simpa using h1
 have e2:(k==2)=false:=by simpa using h2
 have e3:(k==3)=false:=by simpa using h3
 have e4:(k==4)=false:=by simpa using h4
 have e5:(k==5)=false:=by simpa using h5
 have e6:(k==6)=false:=by simpa using h6
 simp[wo,Qv,e1,e2,e3,e4,e5,e6,h1,h2,h3,h4,h5,h6,yQ,qg3]
theorem Yr {k:Int}{us:List AV}(h:yQ k=some us):∃ b1 b2 b3 b4 b5 b6 b7:Bool,us=[.bool b1,.bool b2,.bool b3,.bool b4,.bool b5,.bool b6,.bool b7]:=by
 unfold yQ at h;grind
theorem qej {k:Int}{us:List AV}(h:yQ k=some us):wQ k=true:=by
 unfold yQ at h;unfold wQ;grind
theorem qek {k:Int}(h:yQ k=none):wQ k=false:=by
 unfold yQ at h;unfold wQ;grind
theorem qmi (x:It)(p:Place)(h:Hold1 x)(hl:Low1 x)(hd:p.depth<=1000000000)(hh:hgt x.expr<1000000):PZ 244 [.agg (qK x),.agg (kp p)] (I_ (jD x p.depth)):=by
 refine Pure.kO ⟨false,qmE,[],[]⟩ false qg Tryz.func244 rfl (by kernel_rfl) ?_;simp only[ql,qa,kp];simp[-getElem?_pos];refine qkt (fun ev O=>ev 2=.ptr 0 0/\ev 3=.ptr 1 0/\(∃ m us,ev 5=.ptr m 0/\ev 6=.bool (yQ x.kind).isSome/\us=(yQ x.kind).getD [.bool false,.bool false,.bool false,.bool false,.bool false,.bool false,.bool false]/\O.H[m]?=some (.cells us))/\O.H[0]?=some (.cells (qK x))/\O.H[1]?=some (.cells (kp p))/\O.T=[]) ?_ ?_
 . rw[zJ rfl];simp[-getElem?_pos,zR,ZF]
   repeat' with_reducible refine And.intro ?_ ?_
   all_goals
    refine qd.acall (qnc _) ?_;rintro v O' ⟨rfl,rfl⟩;have lk:=fun (H:List Blk) (T:List (Option Nat)) (b:Nat) (hb:H[b]?=some (.map qgs 6))=>qp7 (k:=x.kind) (T:=T) hb
    cases hu:yQ x.kind with
    | none=>
     simp only[hu]at lk;simp[-getElem?_pos,zR,ZF,lk];simp[ql,qa,kp]
    | some us=>
     simp only[hu]at lk;obtain⟨b1,b2,b3,b4,b5,b6,b7,rfl⟩:=Yr hu;simp[-getElem?_pos,zR,ZF,lk];simp[ql,qa,kp]
 . rintro ev ⟨H,T⟩ ⟨h2,h3,⟨m,us,h5,h6,hus,hm⟩,hH0,hH1,hT⟩;simp only at hT hm hH0 hH1;subst hT;have hr:jD x p.depth=if wQ x.kind=false\/yA x=false\/4<p.depth\/(0<p.depth/\(x.kind=3\/x.kind=6)) then 1
    else if x.kind=3 then (if jk x.ws≠0 then jk x.ws else if js x.name=false then 7 else 0)
    else if x.kind=6 then (if x.before=[]\/x.after=[] then 1 else if (x.before++x.after).any (fun s=>!js s)=true then 7 else 0)
    else if x.kind=5 then (if qO x.name=false\/qO x.index=false then 7 else 0)
    else qM x.expr:=rfl
   generalize jD x p.depth=r at hr;simp only[ql,qa,kp,qrd,qrh]at hH0 hH1
   cases hu:yQ x.kind with
   | none=>
    rw[hu]at h6;have hk:wQ x.kind=false:=qek hu;rw[if_pos (.inl hk)]at hr;subst hr;simp[-getElem?_pos,h6]
   | some us'=>
    rw[hu]at h6 hus;have hk:wQ x.kind=true:=qej hu;have hus:us=us':=hus;subst hus;have hp:=qmI x us hu hl.before hl.after;obtain⟨b1,b2,b3,b4,b5,b6,b7,rfl⟩:=Yr hu;simp only[ql,qa,qrd,qrh]at hp;simp[-getElem?_pos,h2,h5,h6,hH0,hm];refine qd.call hp (by simp) ?_;cases hpl:yA x
    . rw[if_pos (.inr (.inl hpl))]at hr;subst hr;simp[-getElem?_pos]
    by_cases c1:4<p.depth
    . have c1':(4:Int)<p.depth:=(by omega);rw[if_pos (.inr (.inr (.inl c1)))]at hr;subst hr;simp[-getElem?_pos,h3,hH1,c1']
    have c1':¬ (4:Int)<p.depth:=(by omega);by_cases c2:0<p.depth/\(x.kind=3\/x.kind=6)
    . have c2':(0:Int)<p.depth:=(by omega);rw[if_pos (.inr (.inr (.inr c2)))]at hr;subst hr;rcases c2.2 with e|e<;>simp[-getElem?_pos,h2,h3,hH0,hH1,c1',c2.1,e]
    rw[if_neg (by simp only[hk,hpl];simp;omega)]at hr;have hkk:x.kind=1\/x.kind=2\/x.kind=3\/x.kind=4\/x.kind=5\/x.kind=6:=by
     unfold wQ at hk;simp at hk;omega
    by_cases k3:x.kind=3
    . have hd0:p.depth=0:=(by omega);rw[if_pos k3]at hr;simp[-getElem?_pos,h2,h3,hH0,hH1,k3,hd0];refine qd.call (qg6 x.ws h.ws) (by simp) ?_;by_cases hw:jk x.ws=0
      . rw[if_neg (by rw[hw];simp)]at hr;simp[-getElem?_pos,hw,h2,hH0];refine qd.call (qgt x.name h.name) (by simp) ?_;cases hv:js x.name
        . rw[if_pos hv]at hr;subst hr;simp[-getElem?_pos]
        . rw[if_neg (by rw[hv];simp)]at hr;subst hr;simp[-getElem?_pos]
      . rw[if_pos hw]at hr;subst hr;simp[-getElem?_pos,hw]
    rw[if_neg k3]at hr;by_cases k6:x.kind=6
    . have hd0:p.depth=0:=(by omega);rw[if_pos k6]at hr;by_cases e1:x.before=[]
      . rw[if_pos (.inl e1)]at hr;subst hr;simp[-getElem?_pos,h2,h3,hH0,hH1,k6,hd0,e1]
      by_cases e2:x.after=[]
      . rw[if_pos (.inr e2)]at hr;subst hr;simp[-getElem?_pos,h2,h3,hH0,hH1,k6,hd0,e1,e2]
      rw[if_neg (by simp[e1,e2])]at hr;simp[-getElem?_pos,h2,h3,hH0,hH1,k6,hd0,e1,e2];refine qd.less (qdL x.before x.after hl.before hl.after) (by simp) (by simp) ?_;have hnm:=h.names;have hlen:(x.before++x.after).length<=2000:=(by have:=hl.before;have:=hl.after;simp;omega);generalize x.before++x.after=l at hr hnm hlen;simp[-getElem?_pos];refine qv.list l (fun d ev O=>ev 79=sS l/\ev 80=I_ l.length/\ev 81=I_ d.length/\(∃ H,O=⟨H,[]⟩)/\∀ s∈d,js s=true) (by simp) ?_ ?_
      . clear h2 h3 h5 h6;rintro d v l' ev O hd hv hlt ⟨h79,h80,h81,⟨H',rfl⟩,hz⟩;simp[-getElem?_pos,h79,h80,h81,hlt,hv];refine qd.call (qgt v (hnm v (qqW hv))) (by simp) ?_;cases hvs:js v
        . rw[if_pos (qq2.2 ⟨v,qqW hv,by simp[hvs]⟩)]at hr;subst hr;simp[-getElem?_pos]
        . simp[-getElem?_pos,h79,h80,h81];exact⟨wr (by omega) (by omega),Wk hz hvs⟩
      . clear h2 h3 h5 h6;rintro ev O ⟨h79,h80,h81,⟨H',rfl⟩,hz⟩;rw[if_neg (by rw[qq2];rintro⟨s,hs,h⟩;rw[hz s hs]at h;cases h)]at hr;subst hr;simp[-getElem?_pos,h80,h81]
    rw[if_neg k6]at hr;have k36:¬ (x.kind=3\/x.kind=6):=(by omega);by_cases k5:x.kind=5
    . rw[if_pos k5]at hr;by_cases hd0:p.depth=0
      . simp[-getElem?_pos,h2,h3,hH0,hH1,k5,hd0];refine qd.call (jH x.name) (by simp) ?_;cases n1:qO x.name
        . rw[if_pos (.inl n1)]at hr;subst hr;simp[-getElem?_pos]
        simp[-getElem?_pos,h2,hH0];refine qd.call (jH x.index) (by simp) ?_;cases n2:qO x.index
        . rw[if_pos (.inr n2)]at hr;subst hr;simp[-getElem?_pos]
        . rw[if_neg (by rw[n1,n2];simp)]at hr;subst hr;simp[-getElem?_pos]
      . have c3:(0:Int)<p.depth:=(by omega);have c3n:0<p.depth:=(by omega);simp[-getElem?_pos,h2,h3,hH0,hH1,c1',k5,c3n];refine qd.call (jH x.name) (by simp) ?_;cases n1:qO x.name
        . rw[if_pos (.inl n1)]at hr;subst hr;simp[-getElem?_pos]
        simp[-getElem?_pos,h2,hH0];refine qd.call (jH x.index) (by simp) ?_;cases n2:qO x.index
        . rw[if_pos (.inr n2)]at hr;subst hr;simp[-getElem?_pos]
        . rw[if_neg (by rw[n1,n2];simp)]at hr;subst hr;simp[-getElem?_pos]
    rw[if_neg k5]at hr;by_cases hd0:p.depth=0
    . simp[-getElem?_pos,h2,h3,hH0,hH1,k3,k5,k6,hd0];have hv:=QB x.expr h.expr hh;rw[qa]at hv;refine qd.call hv (by simp) ?_;subst hr;simp[-getElem?_pos]
    . have c3:(0:Int)<p.depth:=(by omega);have c3n:0<p.depth:=(by omega);simp[-getElem?_pos,h2,h3,hH0,hH1,c1',k3,k5,k6,c3n];have hv:=QB x.expr h.expr hh;rw[qa]at hv;refine qd.call hv (by simp) ?_;subst hr;simp[-getElem?_pos]
section
theorem qlf (l:List Str)(hl:l.length<=1000000)(O:St):qq Zp GG 245 [.sl 1 (l.map qs) .none] O (fun r O'=>(l=[]/\O'=O/\(r=.sl 0 [] .nil\/r=.sl 1 [] .tight))\/(l≠[]/\r=.sl 1 (l.map qs) (.chain O.T.length l.length)/\O'=⟨O.H,O.T++[some l.length]⟩)):=by
 refine qq.k qg Tryz.func245 rfl (by kernel_rfl) ?_
 cases l with
 | nil=>simp[qt]
 | cons a r=>
  have hb:r.length+1<=1073741824:=by simp at hl;omega
  simp[qt,hb]
def qmG:List (Nat×Sch×List Nat):=[(12,.step 0 [8,7,6,2,1] (.step 1 [8,7,6,2] (.step 3 [8,7,6,5,4] (.fork (.cons 2 (.step 4 [8,7,6,5] (.step 5 [8,7,6] (.step 6 [8,7] (.step 7 [8] (.step 8 [] (.done)))))) (.cons 4 (.step 5 [8,7,6] (.step 2 [8,7,6] (.step 6 [8,7] (.step 7 [8] (.step 8 [] (.done)))))) (.nil)))))),[2])]
section
variable {f:It->Place->Int}{vf:FuncId}{first cap:List AV}{S:St->Prop}{good:It->Prop}
def qfI (f:It->Place->Int)(vf:FuncId)(first cap:List AV)(S:St->Prop)(good:It->Prop):Prop :=
 ∀ x p O,good x->p.depth<=1000000000->p.bound.length<=1000000->S O->qq Zp GG vf (first++[.agg (qK x),.agg (kp p)]++cap) O (fun r O'=>r=.int .i64 (f x p)/\Ext O O')
def qaq (f:It->Place->Int)(vf:FuncId)(first cap:List AV)(S:St->Prop)(l:List It):Prop :=
 ∀ p O,p.depth+(zA l).length<=1000000000->p.bound.length+(zA l).length<=1000000->S O->qq Zp GG 178 [.sl 12 (l.map qK) .none,.agg (kp p),.fn vf first cap] O (fun r O'=>r=.int .i64 (qh (fun y=>f y.1 y.2) (jl p l))/\Ext O O')
theorem qdm {g:It×Place->Int}{p:Place}{l d r:List It}{x:It}(hl:l=d++x::r)(hz:qh g (jl p d)=0) :
 qh g (jl p l)=if g (x,p)≠0 then g (x,p) else if qh g (jl (ym x p) x.items)≠0 then qh g (jl (ym x p) x.items) else if qh g (jl (jx x p) x.els)≠0 then qh g (jl (jx x p) x.els) else qh g (jl p r):=by
 rw[hl,Yq,qT,if_pos hz,vH,v8,qrd,qh];by_cases h0:g (x,p)=0
 . by_cases h1:qh g (jl (ym x p) x.items)=0
   . by_cases h2:qh g (jl (jx x p) x.els)=0
     . simp[qT,h0,h1,h2]
     . simp[qT,h0,h1,h2]
   . simp[qT,h0,h1]
 . rw[if_neg h0,if_pos h0]
theorem Vl {g:It×Place->Int}{p:Place}{d:List It}{x:It}(hz:qh g (jl p d)=0)(h0:g (x,p)=0)(h1:qh g (jl (ym x p) x.items)=0)(h2:qh g (jl (jx x p) x.els)=0):qh g (jl p (d++[x]))=0:=by
 rw[qdm (r:=[]) rfl hz,if_neg (by simp[h0]),if_neg (by simp[h1]),if_neg (by simp[h2])];rfl
theorem QR (x:It)(p:Place):(ym x p).bound=if x.kind=5 then p.bound++[x.index] else p.bound:=by
 unfold ym jx;split
 . rfl
 . split<;>rfl
theorem QS (x:It)(p:Place):(jx x p).bound=p.bound:=by
 unfold jx;split<;>rfl
theorem yV (x:It)(p:Place):(jx x p).depth=if x.kind=4\/x.kind=5 then p.depth+1 else p.depth:=by
 unfold jx;split<;>rfl
theorem vt (x:It)(p:Place):(ym x p).depth=(jx x p).depth:=by
 unfold ym jx;by_cases h5:x.kind=5
 . simp[h5]
 . simp[h5]
theorem qau (hS:∀ O O',S O->Ext O O'->S O')(hv:qfI f vf first cap S good)(l:List It)(hl:Fits l)(h:∀ x∈l,good x/\qaq f vf first cap S x.items/\qaq f vf first cap S x.els):qaq f vf first cap S l:=by
 intro p O hd hb hs;refine qq.kO ⟨false,qmG,[],[]⟩ qg Tryz.func178 rfl (by kernel_rfl) ?_;obtain⟨H,T⟩:=O;simp[-getElem?_pos,kp];refine qv.listR l (fun d ev O=>ev 2=.fn vf first cap/\ev 4=.ptr H.length 0/\ev 14=.sl 12 (l.map qK) .none/\ev 15=.int .i64 l.length/\ev 16=.int .i64 d.length/\Ext ⟨H++[.cells (kp p)],T⟩ O/\qh (fun y=>f y.1 y.2) (jl p d)=0) ?_ ?_ ?_
 . exact⟨by simp,by simp,by simp,by simp,by simp,Ext.refl,by simp[qh]⟩
 . rintro d x r ev ⟨H1,T1⟩ R hR hdl hx hlt ⟨h2,h4,h14,h15,h16,he,hz⟩;obtain⟨gx,w1,w2⟩:=h x (qqW hx);have hfst:=qdm (g:=fun y=>f y.1 y.2) hdl hz;have hE0:Ext ⟨H,T⟩ ⟨H1,T1⟩:=Ext.push.trans he;have e4:H1[H.length]?=some (.cells [.int .i64 p.depth,.sl 1 (p.bound.map qs) .none]):=he.at (by simp[kp]);have hsub:(Zy x).length<=(zA l).length:=by
    rw[hdl,QM];simp[zA];omega
   have hsz:(Zy x).length=1+(zA x.items).length+(zA x.els).length:=(by rw[qX];simp;omega);simp[-getElem?_pos,h2,h4,h14,h15,h16,hx,hlt,ql,qa,qb e4];have hvis:=hv x p ⟨H1++[.cells (qK x)],T1⟩ gx (by omega) (by omega) (hS _ _ hs (hE0.trans Ext.push));simp only[ql,qa,kp,qrd,qrh,qri]at hvis;refine qd.acall (by simpa using hvis) ?_;rintro v ⟨H2,T2⟩ ⟨rfl,he2⟩;have hE2:Ext ⟨H,T⟩ ⟨H2,T2⟩:=hE0.trans (Ext.push.trans he2);have e42:H2[H.length]?=some (.cells [.int .i64 p.depth,.sl 1 (p.bound.map qs) .none]):=he2.at (qb e4 _);have e82:H2[H1.length]?=some (.cells (qK x)):=by
    have:=he2.at (k:=H1.length) (x:=.cells (qK x)) (by simp[ql,qa]);exact this
   simp only[ql,qa,qrd,qrh]at e82;by_cases hf:f x p=0
   . simp[-getElem?_pos,-qnf,hf,h4,e42,qb e82];refine qos (fun ev O=>ev 2=.fn vf first cap/\ev 4=.ptr H.length 0/\ev 8=.ptr H1.length 0/\ev 10=.ptr H2.length 0/\ev 14=.sl 12 (l.map qK) .none/\ev 15=.int .i64 l.length/\ev 16=.int .i64 d.length /\
      ev 39=.bool (decide (x.kind=4\/x.kind=5))/\O=⟨H2++[.cells [.int .i64 p.depth,.sl 1 (p.bound.map qs) .none]],T2⟩) ?_ ?_
     . by_cases k4:x.kind=4
       . simp[-getElem?_pos,h2,h4,h14,h15,h16,k4]
       . simp[-getElem?_pos,h2,h4,h14,h15,h16,k4,qb e82];rfl
     clear h2 h4 h14 h15 h16;rintro ev O ⟨h2,h4,h8,h10,h14,h15,h16,h39,rfl⟩;simp[-getElem?_pos,-Y6,h39];refine qbd (fun ev O=>ev 2=.fn vf first cap/\ev 4=.ptr H.length 0/\ev 8=.ptr H1.length 0/\ev 10=.ptr H2.length 0/\ev 14=.sl 12 (l.map qK) .none/\ev 15=.int .i64 l.length/\ev 16=.int .i64 d.length /\
      O=⟨H2++[.cells [.int .i64 (jx x p).depth,.sl 1 (p.bound.map qs) .none]],T2⟩) ?_ ?_
     . rw[yV];by_cases k45:x.kind=4\/x.kind=5
       . have hw:IntKind.i64.wrap ((p.depth:Int)+1)=p.depth+1:=wr (by omega) (by omega);simp[-getElem?_pos,h2,h4,h8,h10,h14,h15,h16,k45,hw];omega
       . simp[-getElem?_pos,h2,h4,h8,h10,h14,h15,h16,k45]
     clear h2 h4 h8 h10 h14 h15 h16 h39;rintro ev O ⟨h2,h4,h8,h10,h14,h15,h16,rfl⟩;simp[-getElem?_pos,-Y6,h8,h10,qb e82];refine qbd (fun ev O=>ev 2=.fn vf first cap/\ev 4=.ptr H.length 0/\ev 8=.ptr H1.length 0/\ev 10=.ptr H2.length 0/\ev 11=.ptr (H2.length+1) 0/\ev 14=.sl 12 (l.map qK) .none/\ev 15=.int .i64 l.length/\ev 16=.int .i64 d.length /\
      ∃ bv T3,O=⟨H2++[.cells [.int .i64 (ym x p).depth,bv],.cells [.int .i64 (jx x p).depth,.sl 1 (p.bound.map qs) .none]],T3⟩/\T2 <+: T3/\Leq bv (.sl 1 ((ym x p).bound.map qs) .none)) ?_ ?_
     . rw[QR,vt];by_cases k5:x.kind=5
       . simp[-getElem?_pos,k5];rw[zJ rfl];simp[-getElem?_pos,zR,ZF,h4,h8,k5,qb e82,qb e42]
         repeat' with_reducible refine And.intro ?_ ?_
         all_goals
          refine qd.acall (qlf p.bound (by omega) _) ?_;rintro v ⟨H3,T3⟩ (⟨hb0,hσ,rfl|rfl⟩|⟨hb0,rfl,hσ⟩)<;>cases hσ
          . simp[-getElem?_pos,zR,ZF,h2,h4,h8,h10,h14,h15,h16,k5,qb e82,qt,hb0];exact⟨_,_,⟨rfl,rfl⟩,qrY _ _,Leq.sl rfl⟩
          . simp[-getElem?_pos,zR,ZF,h2,h4,h8,h10,h14,h15,h16,k5,qb e82,qt,hb0];exact⟨_,_,⟨rfl,rfl⟩,qrY _ _,Leq.sl rfl⟩
          . have hbl:p.bound.length+1<=1073741824:=(by omega);have htk:(T2++[some p.bound.length])[T2.length]?=some (some p.bound.length):=(by simp);simp[-getElem?_pos,zR,ZF,h2,h4,h8,h10,h14,h15,h16,k5,qb e82,qt,hb0,hbl,htk];exact⟨_,_,⟨rfl,rfl⟩,qrY _ _,Leq.sl (by simp)⟩
       . simp[-getElem?_pos,h2,h4,h8,h10,h14,h15,h16,k5];exact⟨_,_,⟨rfl,rfl⟩,qr6,Leq.refl _⟩
     clear h2 h4 h8 h10 h14 h15 h16;rintro ev O ⟨h2,h4,h8,h10,h11,h14,h15,h16,bv,T3,rfl,hT3,hbv⟩;have hE3:Ext ⟨H,T⟩ ⟨H2++[.cells [.int .i64 (ym x p).depth,bv],.cells [.int .i64 (jx x p).depth,.sl 1 (p.bound.map qs) .none]],T3⟩:=hE2.trans (Ext.pushT hT3);simp[-getElem?_pos,h2,h8,h10,qb e82];have hpd:(ym x p).depth+(zA x.items).length<=1000000000/\(jx x p).depth+(zA x.els).length<=1000000000:=by
      rw[vt,yV];split<;>omega
     have hpb:(ym x p).bound.length+(zA x.items).length<=1000000/\(jx x p).bound.length+(zA x.els).length<=1000000:=by
      rw[QR,QS];split
      . rw[qqY,qq8];omega
      . omega
     refine qd.acall ((w1 (ym x p) _ hpd.1 hpb.1 (hS _ _ hs hE3)).leq (by simp[kp,zt,Leq,hbv])) ?_;rintro v ⟨H4,T4⟩ ⟨rfl,he4⟩;have hE4:=hE3.trans he4;by_cases hf1:qh (fun y=>f y.1 y.2) (jl (ym x p) x.items)=0
     . have e84:=he4.at (qb e82 _);have e11:H4[H2.length+1]?=some (.cells [.int .i64 (jx x p).depth,.sl 1 (p.bound.map qs) .none]):=he4.at (by simp);simp[-getElem?_pos,hf1,h2,h8,h11,e84,e11];refine qd.acall ((w2 (jx x p) _ hpd.2 hpb.2 (hS _ _ hs hE4)).leq (by simp[kp,QS])) ?_;rintro v ⟨H5,T5⟩ ⟨rfl,he5⟩;by_cases hf2:qh (fun y=>f y.1 y.2) (jl (jx x p) x.els)=0
       . simp[-getElem?_pos,hf2,h16];refine hR _ _ ⟨h2,h4,h14,h15,by simp;exact wr (by omega) (by omega),?_,Vl hz hf hf1 hf2⟩;exact he.trans (Ext.push.trans (he2.trans ((Ext.pushT hT3).trans (he4.trans he5))))
       . rw[hfst,if_neg (by simp[hf]),if_neg (by simp[hf1]),if_pos hf2];simp[-getElem?_pos,hf2];exact hE4.trans he5
     . rw[hfst,if_neg (by simp[hf]),if_pos hf1];simp[-getElem?_pos,hf1];exact hE4
   . rw[hfst,if_pos hf];simp[-getElem?_pos,hf];exact hE2
 . rintro ev O ⟨h2,h4,h14,h15,h16,he,hz⟩;simp[-getElem?_pos,h15,h16,hz];exact Ext.push.trans he
end
theorem qiQ {f:It->Place->Int}{vf:FuncId}{first cap:List AV}{S:St->Prop}{good:It->Prop}(hS:∀ O O',S O->Ext O O'->S O')(hv:qfI f vf first cap S good)(l:List It)(hg:∀ y∈zA l,good y)(hfit:∀ y∈zA l,Fits y.items/\Fits y.els)(hl:Fits l):qaq f vf first cap S l:=by
 have one:∀ x:It,(∀ y∈Zy x,good y/\Fits y.items/\Fits y.els)->qaq f vf first cap S x.items/\qaq f vf first cap S x.els:=by
  refine It.ind fun x ih1 ih2 hx=>?_
  have hi:∀ a∈x.items,∀ y∈Zy a,y∈Zy x:=fun a ha y hy=>by
   rw[qX];exact qrk _ (qre.2 (.inl (qV.2 ⟨a,ha,hy⟩)))
  have he:∀ a∈x.els,∀ y∈Zy a,y∈Zy x:=fun a ha y hy=>by
   rw[qX];exact qrk _ (qre.2 (.inr (qV.2 ⟨a,ha,hy⟩)))
  have hself:∀ a:It,a∈Zy a:=fun a=>by rw[qX];simp
  exact⟨qau hS hv x.items (hx x (hself x)).2.1 fun a ha=>⟨(hx a (hi a ha a (hself a))).1,ih1 a ha fun y hy=>hx y (hi a ha y hy)⟩,
   qau hS hv x.els (hx x (hself x)).2.2 fun a ha=>⟨(hx a (he a ha a (hself a))).1,ih2 a ha fun y hy=>hx y (he a ha y hy)⟩⟩
 exact qau hS hv l hl fun x hx=>⟨hg x (qV.2 ⟨x,hx,by rw[qX];simp⟩),one x fun y hy=>⟨hg y (qV.2 ⟨x,hx,hy⟩),hfit y (qV.2 ⟨x,hx,hy⟩)⟩⟩
end
end Go.Proofs.YtpgcmnabljandaaGreatDoor
end
