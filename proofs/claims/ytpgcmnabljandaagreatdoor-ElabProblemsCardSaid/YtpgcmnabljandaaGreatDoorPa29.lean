/- A part of the proof. -/
import Derived.Test.YtpgcmnabljandaaGreatDoorPa25
import Derived.Test.YtpgcmnabljandaaGreatDoorPa28
import Derived.Test.YtpgcmnabljandaaGreatDoorRows
import Derived.Test.YtpgcmnabljandaaGreatDoorTie
import Derived.Test.YtpgcmnabljandaaGreatDoorCards
import Derived.ProofKit
import Derived.LaidMore
import Derived.OpenShut
import Derived.Stop.Joined
import Derived.SevenTiedAt
import Derived.WideKeyArgs
import Derived.MakeChecks
set_option linter.unusedVariables false
set_option linter.unusedSimpArgs false
set_option maxRecDepth 100000
set_option linter.defProp false
attribute [local simp] Go.Abs.acells Go.Abs.fin Go.Abs.zh Go.Abs.ze Go.Abs.pl1 Go.Abs.plain Go.Abs.pl2 Go.Abs.AV.atom
section
namespace Go.Proofs.YtpgcmnabljandaaGreatDoor
open Go Go.Abs
theorem qd8 {l:List Var}{i:Nat}(h:i<l.length):qat l i=l[i].width:=by simp[qat,qq6 h]
def qph (l:List Var)(s:List Int):Int:=s.foldl (fun n i=>IntKind.i64.wrap (n+qat l i.toNat)) 0
theorem qaR {p:Problem}{i:Int}(h:i∈yN p):0<=i/\i<p.vars.length:=by
 unfold yN at h;split at h
 . cases h
 . unfold qf5 at h;obtain⟨j,hj,rfl⟩:=qq3.1 h;have:=qrC.1 (qrz.1 hj).1;omega
theorem qeC (p:Problem)(h:VP p):(yN p).length<=20:=by
 unfold yN;split
 . simp
 . exact qrN qf4 h.vars20
theorem qma {l:List Var}{s:List Int}{i:Nat}{v:Int}(h:s[i]?=some v):qph l (s.take (i+1))=IntKind.i64.wrap (qph l (s.take i)+qat l v.toNat):=by
 unfold qph;rw[qrB,h,qsL];rfl
theorem bits24 (p:Problem)(h:VP p):PZ 24 [.agg (yM p)] (.int .i64 (qph p.vars (yN p))):=by
 refine Pure.vc qg Tryz.func24 rfl (by kernel_rfl) ?_;have hv:=qmw p h;have hlen:=qeC p h;have hrg:∀ i∈yN p,0<=i/\i<p.vars.length:=fun i hi=>qaR hi
 simp only[yM]at hv;generalize yN p=R at hv hlen hrg ⊢;simp;refine qe.call hv (by simp) ?_
 try simp
 refine qC.intro (fun q env O=>∃ i,i<=R.length/\q=R.length-i/\env 1=.ptr 0 0/\env 3=.int .i64 (qph p.vars (R.take i))/\env 7=.sl 1 (R.map qY) .none/\env 8=.int .i64 R.length/\env 9=.int .i64 i/\O=⟨[.cells (yM p)],[]⟩) R.length ⟨0,by simp[qph]⟩ ?_;rintro q env O ⟨i,hi,rfl,h1,h3,h7,h8,h9,rfl⟩
 cases hvi:R[i]? with
 | some v=>
  obtain⟨hc,hv'⟩:=qqV.1 hvi;obtain⟨r1,r2⟩:=hrg v (qqW hvi);obtain⟨j,rfl⟩:=qrj r1;have hj:j<p.vars.length:=by omega
  have hs:=qma (l:=p.vars) hvi;simp only[qsr]at hs;rw[qd8 hj]at hs;simp[h1,h3,h7,h8,h9,hc,hv',hj];exact⟨_,by omega,i+1,by omega,rfl,by rw[hs],wr (by omega) (by omega)⟩
 | none=>
  have hc:¬ i<R.length:=by simp at hvi;omega
  have ht:R.take i=R:=qrb (by omega);rw[ht]at h3;simp[h1,h3,h7,h8,h9,hc]
section
section
variable {H:Type}{enc:TypeId×Value->H}{w:World}{base:Nat}{held:Bool}
theorem vk {fs:Array Field}{t n:Nat}{cs:List Value}{x:DataW H×List MemPlace}(ht:Zp.underlying t=some (.struct fs))(h:DataW.trod enc Zp w base (fun _=>true) held n t cs=some x) :
 ∃ m,n=m+1/\cs.length=Zp.cellsOf t/\∀ (i:Nat) (f:Field),fs[i]?=some f->∃ y,DataW.trod enc Zp w base (fun _=>true) held m f.type ((cs.drop f.offset).take (Zp.cellsOf f.type))=some y:=by
 obtain⟨xs,m,rfl,rfl,hl,hlen,hf⟩:=DataW.trod_struct ht h;refine⟨m,rfl,hl,fun i f hi=>?_⟩;have hlt:i<fs.size:=(qrE.1 hi).1;exact⟨xs[i]'(by omega),by rw[hf i f hi,qq6]⟩
theorem k3:Zp.cellsOf 3=1:=by kernel_rfl
theorem k4:Zp.cellsOf 4=1:=by kernel_rfl
theorem k9:Zp.cellsOf 9=1:=by kernel_rfl
theorem k32:Zp.cellsOf 32=1:=by kernel_rfl
theorem k36:Zp.cellsOf 36=5:=by kernel_rfl
theorem k55:Zp.cellsOf 55=4:=by kernel_rfl
theorem k66:Zp.cellsOf 66=1:=by kernel_rfl
theorem k155:Zp.cellsOf 155=4:=by kernel_rfl
theorem wN {s:ByteArray}:qj (KW w) (.str s.data.toList) (.string s):=by
 obtain⟨d⟩:=s;unfold qj;show Value.string ⟨d⟩=Value.string ⟨d.toList.toArray⟩;rw[qsM]
theorem QJ {n:Nat}{c:Value}{y:DataW H×List MemPlace}(h:DataW.trod enc Zp w base (fun _=>true) held n 3 [c]=some y):∃ i:Int,c=.int .i64 i:=by
 obtain⟨i,e,_⟩:=DataW.trod_int Tryz.underlying3 h;exact⟨i,(List.cons.inj e).1⟩
theorem qpC {n:Nat}{c:Value}{y:DataW H×List MemPlace}(h:DataW.trod enc Zp w base (fun _=>true) held n 4 [c]=some y):∃ i:Bool,c=.bool i:=by
 obtain⟨i,e,_⟩:=DataW.trod_bool Tryz.underlying4 h;exact⟨i,(List.cons.inj e).1⟩
theorem Jp {n:Nat}{c:Value}{y:DataW H×List MemPlace}(h:DataW.trod enc Zp w base (fun _=>true) held n 9 [c]=some y):∃ s:ByteArray,c=.string s/\Fits s.data.toList:=by
 obtain⟨s,e,_,hs⟩:=DataW.trod_string Tryz.underlying9 h;refine⟨s,(List.cons.inj e).1,?_⟩;have:s.data.toList.length=s.size:=qr0;rw[Fits,this];simp only[maxLen]at hs;omega
theorem qmt {n:Nat}{cs:List Value}{x:DataW H×List MemPlace}(h:DataW.trod enc Zp w base (fun _=>true) held n 155 cs=some x):∃ v:Weight,qk (KW w) (zs v) cs/\True:=by
 obtain⟨m,rfl,hl,hf⟩:=vk Tryz.underlying155 h;rw[k155]at hl
 match cs,hl with
 | [a,b,c,d],_=>
  obtain⟨y0,h0⟩:=hf 0 _ rfl;obtain⟨y1,h1⟩:=hf 1 _ rfl;obtain⟨y2,h2⟩:=hf 2 _ rfl;obtain⟨y3,h3⟩:=hf 3 _ rfl;have h0:DataW.trod enc Zp w base (fun _=>true) held m 3 (List.take (Zp.cellsOf 3) (List.drop 0 [a,b,c,d]))=some y0:=h0;rw[k3]at h0;have h1:DataW.trod enc Zp w base (fun _=>true) held m 3 (List.take (Zp.cellsOf 3) (List.drop 1 [a,b,c,d]))=some y1:=h1;rw[k3]at h1;have h2:DataW.trod enc Zp w base (fun _=>true) held m 3 (List.take (Zp.cellsOf 3) (List.drop 2 [a,b,c,d]))=some y2:=h2;rw[k3]at h2;have h3:DataW.trod enc Zp w base (fun _=>true) held m 4 (List.take (Zp.cellsOf 4) (List.drop 3 [a,b,c,d]))=some y3:=h3;rw[k4]at h3;obtain⟨i0,rfl⟩:=QJ (c:=a) h0;obtain⟨i1,rfl⟩:=QJ (c:=b) h1;obtain⟨i2,rfl⟩:=QJ (c:=c) h2;obtain⟨i3,rfl⟩:=qpC (c:=d) h3;refine⟨⟨i0,i1,i2,i3⟩,?_,trivial⟩;simp[qk,qj]
theorem rdE:∀ (N n:Nat),n<=N->∀ {cs:List Value} {x:DataW H×List MemPlace},DataW.trod enc Zp w base (fun _=>true) held n 55 cs=some x->∃ e:Ex,qk (KW w) (qz e) cs/\Wen e:=by
 intro N
 induction N with
 | zero=>
  intro n hn cs x h;have:n=0:=by omega
  subst this;simp[DataW.trod]at h
 | succ N ih=>
  intro n hn cs x h;obtain⟨m,rfl,hl,hf⟩:=vk Tryz.underlying55 h;rw[k55]at hl
  match cs,hl with
  | [a,b,c,d],_=>
   obtain⟨y0,h0⟩:=hf 0 _ rfl;obtain⟨y1,h1⟩:=hf 1 _ rfl;obtain⟨y2,h2⟩:=hf 2 _ rfl;obtain⟨y3,h3⟩:=hf 3 _ rfl;have h0:DataW.trod enc Zp w base (fun _=>true) held m 3 (List.take (Zp.cellsOf 3) (List.drop 0 [a,b,c,d]))=some y0:=h0;rw[k3]at h0;have h1:DataW.trod enc Zp w base (fun _=>true) held m 3 (List.take (Zp.cellsOf 3) (List.drop 1 [a,b,c,d]))=some y1:=h1;rw[k3]at h1;have h2:DataW.trod enc Zp w base (fun _=>true) held m 9 (List.take (Zp.cellsOf 9) (List.drop 2 [a,b,c,d]))=some y2:=h2;rw[k9]at h2;have h3:DataW.trod enc Zp w base (fun _=>true) held m 32 (List.take (Zp.cellsOf 32) (List.drop 3 [a,b,c,d]))=some y3:=h3;rw[k32]at h3;obtain⟨i0,rfl⟩:=QJ (c:=a) h0;obtain⟨i1,rfl⟩:=QJ (c:=b) h1;obtain⟨s,rfl,hs⟩:=Jp (c:=c) h2;have h3':DataW.trod enc Zp w base (fun _=>true) held m 32 [d]=some y3:=h3
   cases m with
   | zero=>simp[DataW.trod]at h3'
   | succ m=>
    obtain⟨l,v,e,hv,hfl,hg⟩:=kh (en:=qz) (good:=Wen) Tryz.underlying32 k55 (by omega) (fun y=>by rw[qa];simp[AV.atom]) (fun cs x h=>ih m (by omega) h) h3';cases e;refine⟨.mk i0 i1 s.data.toList l,?_,?_⟩
    . rw[qa];simp only[qk,Ex.op_mk,Ex.n_mk,Ex.name_mk,Ex.args_mk];exact⟨_,_,rfl,by simp[qj],_,_,rfl,by simp[qj],_,_,rfl,wN,_,[],rfl,hv,rfl⟩
    . intro y hy;rw[zb]at hy;rcases qra.1 hy with rfl|hy
      . exact⟨hfl,hs⟩
      . obtain⟨a,ha,hya⟩:=jz.1 hy;exact hg a ha y hya
end
end
end Go.Proofs.YtpgcmnabljandaaGreatDoor
end
section
namespace Go.Proofs.YtpgcmnabljandaaGreatDoor
open Go Go.Abs Go.ChangeShapes Go.WideShapes Go.ChangeAt Go.RowKit
theorem qpP:ownKnob Tryz.prog.godebug=none:=by kernel_rfl
theorem qeV:laidOutB Tryz.prog=true:=by kernel_rfl
theorem gKeyw : Tryz.prog.globalNamed "testbench/lexer.keywords" = some 0 := by kernel_rfl
theorem tKeyw:(Tryz.prog.globals[0]?).map (·.type)=some 23:=by kernel_rfl
theorem qpB {H:Type}{enc:TypeId×Value->H}{w:World}{base:Nat}{held:Bool}{n:Nat}{cs:List Value}{p:List MemPlace}{K:List Str}
 (h:DataW.trod enc Tryz.prog w base (fun _=>true) held n 23 cs=some (.slice (K.map fun k=>.lit (.string k)) [],p)) (hK:K≠[]) :
 ∃ v,cs=[v]/\qj (KW w) (.sl 1 (K.map qs) .none) v:=by
 have hs:∀ (m:Nat) (cs:List Value) (x:DataW H×List MemPlace),DataW.trod enc Tryz.prog w base (fun _=>true) held m 9 cs=some x->∃ k:Str,qk (KW w) (qs k) cs/\x.1=.lit (.string k):=by
  intro m cs x h;obtain⟨s,rfl,rfl,_⟩:=DataW.trod_string Tryz.underlying9 h;refine⟨s.data.toList,?_,rfl⟩;simp only[qs,qk];exact⟨_,[],rfl,wN,rfl⟩
 rcases DataW.trod_slice Tryz.underlying23 h with ⟨_,e⟩|⟨a,len,cap,elems,rest,m,hm,rfl,e,hb,hl,hc,hlen,hel',hsp,_⟩
 . simp at e
 simp only[Prod.mk.injEq,DataW.slice.injEq]at e;obtain⟨⟨e1,e2⟩,_⟩:=e;have hlK:len=K.length:=by rw[<- hlen];have:=congrArg List.length e1;simpa using this.symm
 have hK0:0<K.length:=qrH.2 hK;rw[k9]at hel';have one:∀ i (hi:i<K.length),∃ cs',w.cells? base (a.add (i*1)) 1=some cs'/\qk (KW w) (qs K[i]) cs':=by
  intro i hi;have hh:=hel' i (by omega);rw[qq6 (by omega)]at hh;obtain⟨cs',h1,h2⟩:=qr9.1 hh;obtain⟨k,h3,h4⟩:=hs m cs' _ h2;refine⟨cs',h1,?_⟩;have e3:(elems.map (·.1))[i]?=(K.map fun k=>(DataW.lit (.string k):DataW H))[i]? := by rw[e1]
  rw[qrw,qrw,qq6 (by omega),qq6 hi]at e3;simp only[qsH,Option.some.injEq]at e3;rw[h4]at e3;have e4:k=K[i]:=by simpa using e3
  rw[<- e4];exact h3
 have spot:a.spot=none:=by
  obtain⟨cs',h1,_⟩:=one 0 hK0;rw[qsZ]at h1;obtain⟨_,hlen',hc'⟩:=World.cells?_some h1;have:=hc' 0 (by omega);rw[qq6 (by omega)]at this
  cases hs:a.spot with
  | none=>rfl
  | some s=>
   simp only[Addr.add,if_true]at this;unfold World.cell? at this;rw[hs]at this;split at this<;>simp at this
 obtain⟨b,o,s⟩:=a;simp only at spot;subst spot;refine⟨_,rfl,?_⟩;simp only[qj];refine .inr ⟨b,o,cap,by simp[hlK],by simp;omega,qW.intro b 1 _ o fun i r e=>?_,trivial⟩;rw[qrw,qq0]at e;obtain⟨k,hk,rfl⟩:=e;obtain⟨hi,hk'⟩:=qqV.1 hk;obtain⟨cs',h1,h2⟩:=one i hi;rw[hk']at h2;obtain⟨_,hlen',hc'⟩:=World.cells?_some h1;obtain⟨g1,g2⟩:=qk.get h2;refine⟨rfl,rfl,qp.intro b _ _ fun j z hz=>?_⟩;have hj:j=0:=by
  have:=(qqV.1 hz).1;simp at this;exact this
 subst hj;obtain⟨v,hv1,hv2⟩:=g2 0 z hz;refine⟨v,?_,hv2⟩;have:=hc' 0 (by omega);rw[hv1]at this;show w.cell? ⟨b,o+i*1+0,none⟩=some v;rw[<- this];congr 1;simp only[Addr.add,if_true];by_cases hi0:i*1=0
 . rw[if_pos hi0,hi0];simp
 . rw[if_neg hi0];simp
abbrev qkp:List (String×DataW Unit):=Rows.elabValidsRow.laid
theorem qpY {W:World}(h:laidMetH Tryz.prog qkp W):qj (KW W) (.rptr [.sl 1 (qd6.map qs) .none]) (.pointer (some ⟨0,0,none⟩)):=by
 rw[MakeChecks.laidMetH_plain _ _ _ (by kernel_rfl)]at h;obtain⟨ps,⟨g0,t0,cs0,f0,p0,q0,_,_,_,_,⟨g1,t1,cs1,f1,p1,q1,_,_,_,_,⟨g2,t2,cs2,f2,p2,q2,_,_,_,_,⟨g3,t3,cs3,f3,p3,q3,hg,ht,hv,hd,_,_⟩,_⟩,_⟩,_⟩,_,_⟩:=h;obtain rfl:=Option.some.inj (gKeyw.symm.trans hg);obtain rfl:=Option.some.inj (tKeyw.symm.trans ht);obtain⟨v,e,hr⟩:=qpB (K:=qd6) hd (by decide);have hcell:W.cell? ⟨0,0,none⟩=some v:=by
  have:=World.var?_cell hg hv 0;rw[Array.eq_one_of_toList e]at this;simpa using this
 have hgoal:qj (KW W) (.rptr [.sl 1 (qd6.map qs) .none]) (.pointer (some ⟨0,0,none⟩)):=by
  unfold qj;refine⟨0,0,rfl,?_⟩;unfold qp;exact⟨⟨v,hcell,hr⟩,by unfold qp;trivial⟩
 exact hgoal
theorem qnP (os:Os)(args:Array Value):laidMetH Tryz.prog qkp ((World.doorLaid Tryz.prog 400 os).forCall (fun _ _=>0) ⟨#[],args,[]⟩).memory :=
 laidMetH_of_parts3 (fuel:=8) (laidMet_of_run' 8 (by kernel_rfl) (by kernel_rfl)) (by kernel_rfl) (by kernel_rfl)
end Go.Proofs.YtpgcmnabljandaaGreatDoor
end
