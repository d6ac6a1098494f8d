/- A part of the proof. -/
import Derived.Test.YtcadpamddlofjaaGreatDoorPa37
import Derived.Test.YtcadpamddlofjaaGreatDoorPa39
set_option linter.unusedVariables false
set_option linter.unusedSimpArgs false
set_option maxRecDepth 100000
set_option linter.defProp false
section
namespace Go.Proofs.YtcadpamddlofjaaGreatDoor
open Go Go.Abs
theorem wr1:IntKind.i64.wrap 1=1:=wr (by omega) (by omega)
theorem ins371 (U:St)(b:Nat)(x:AV)(hb:U.H[b]?=some (.cells [x])):qg Tryz.prog GG 196 [.ms b 0 1 1,.int .i64 0,.int .i64 1] U (fun _ τ=>τ=U):=by
 refine qg.k qe Tryz.func196 rfl (by kernel_rfl) ?_;simp[-getElem?_pos];refine qJ.list ([]:List Nat) (fun d env τ=>env 6=.int .i64 1/\env 2=.int .i64 1/\τ=U) ?_ ?_ ?_
 . simp[wr1]
 . rintro d v r env τ h;simp at h
 . rintro env τ ⟨h6,h2,rfl⟩;simp[-getElem?_pos,h6,h2,wr1]
theorem pdq295 (U:St)(b:Nat)(x:AV)(m:AV)(hb:U.H[b]?=some (.cells [x])):qg Tryz.prog GG 141 [.ms b 0 1 1,.int .i64 0,.int .i64 1,m] U (fun _ τ=>τ=U):=by
 refine qg.k qe Tryz.func141 rfl (by kernel_rfl) ?_;simp[-getElem?_pos];refine qJ.list ([]:List Nat) (fun d env τ=>env 0=.ms b 0 1 1/\env 1=.int .i64 0/\env 2=.int .i64 1/\τ=U) ?_ ?_ ?_
 . simp[wr1]
 . rintro d v r env τ h;simp at h
 . rintro env τ ⟨h0,h1,h2,rfl⟩;simp[-getElem?_pos,h0,h1,h2,wr1];refine qc.acall (ins371 τ b x hb) ?_;rintro v τ' rfl;simp[-getElem?_pos]
def qhj (_:Nat):Look:=⟨o0,false⟩
theorem qhi (G:Nat->AV):∀ g x k,(qhj g).o.bw.lookup x=some k->qi1 Tryz.prog G x k:=fun g x k h=>by cases h
def SN:Nat:=102844034832575377640260760209467062346804921170260831835783168
theorem fokN:(List.range 512).all (fun g=>!Nat.testBit SN g||okF qhj g)=true:=by kernel_rfl
noncomputable def FN:Nat->Option Bod:=FF qhj SN
theorem Q7:Y6 Tryz.prog GG FN:=qfA (qhi GG) fokN (by decide +kernel)
theorem len296:Pure Tryz.prog GG 142 [.int .u64 1] (.int .i64 1):=Pure.closedA Q7 (K:=K0) jJ 100 10 (by kernel_rfl)
theorem qnk (U:St)(b:Nat)(x:AV)(hb:U.H[b]?=some (.cells [x])):qg Tryz.prog GG 101 [.ms b 0 1 1] U (fun _ τ=>τ=U):=by
 refine qg.k qe Tryz.func101 rfl (by kernel_rfl) ?_;have ec:IntKind.u64.wrap 1=1:=by decide
 simp[-getElem?_pos,yA,ec];refine qc.call (G:=z5 GG) len296 (by simp[qp,qC]) ?_;simp[-getElem?_pos];refine qc.acall (pdq295 U b x _ hb) ?_;rintro v τ rfl;simp[-getElem?_pos]
theorem VS (x:Int)(tok:Tok):Pure Tryz.prog GG 62 [.fn 102 [] [.rptr [.sl 1 (QC [x]) tok]]] (.sl 1 (QC [x]) .none):=by
 refine Pure.kO o0 true qe Tryz.func62 rfl (by kernel_rfl) ?_;simp[-getElem?_pos];refine qc.acall (Wg _ [x] tok (by simp)) ?_;rintro v τ ⟨h1,h2,h3⟩;rcases h3 with ⟨h3,_⟩|⟨b,rfl,_,hb⟩
 . simp at h3
 simp[-getElem?_pos];refine qc.acall (qnk τ b (.int .i64 x) hb) ?_;rintro v τ' rfl;obtain⟨H,T⟩:=τ';simp at hb;simp[-getElem?_pos];have e:frz H 8 (.ms b 0 1 1)=.sl 1 [[.int .i64 x]] .none:=by
  rw[frz];simp only[qC,hb];simp[kw,Qi]
 rw[e];exact⟨by simp[qC,zj,qp],Leq.refl _⟩
end Go.Proofs.YtcadpamddlofjaaGreatDoor
end
