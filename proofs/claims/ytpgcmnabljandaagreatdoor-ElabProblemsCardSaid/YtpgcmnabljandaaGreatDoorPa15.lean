/- A part of the proof. -/
import Derived.Test.YtpgcmnabljandaaGreatDoorPa09
import Derived.Shelf.Lay
import Derived.Shelf.Strings.Search1
import Derived.WalkKit
set_option linter.unusedVariables false
set_option maxRecDepth 100000
set_option linter.unusedSimpArgs false
set_option linter.defProp false
attribute [local simp] Go.Abs.acells Go.Abs.fin Go.Abs.zh Go.Abs.ze Go.Abs.pl1 Go.Abs.plain Go.Abs.pl2 Go.Abs.AV.atom
section
namespace Go.Proofs.YtpgcmnabljandaaGreatDoor
open Go Go.Abs Go.RowKit
theorem qn1 (s:ByteArray)(c:Int)(w:World) :
 Calls Zp 368 #[.string s,.int .u8 c] w fun e w'=>e=.returned (.int .i64 (Lib.indexByte s.data.toList c.toNat.toUInt8))/\w'=w:=by
 have t3:=Tryz.underlying3;have t5:=Tryz.underlying5;have t9:=Tryz.underlying9;have a3:∀ w,(isAgg 3).run Zp w=.ok false w:=run_isAgg_plain t3 rfl;have a5:∀ w,(isAgg 5).run Zp w=.ok false w:=run_isAgg_plain t5 rfl;have a9:∀ w,(isAgg 9).run Zp w=.ok false w:=run_isAgg_plain t9 rfl
 go_enter Tryz.func368,Tryz.ntmps368
 go_wp2
 rw[run_callFunc_extern Tryz.func382 (by kernel_rfl) (by kernel_rfl) (by kernel_rfl) (e:=Extern.BytealgIndexByte.indexByte) (by kernel_rfl),Lib.run_indexByteString];simp only[Result.andThen];rw[Oper.upon_value]
 go_wp2
 go_ret
 exact⟨rfl,rfl⟩
theorem qc0 (G:Nat->AV)(s:Str)(c:Int):Pure Zp G 368 [.str s,.int .u8 c] (.int .i64 (Lib.indexByte s c.toNat.toUInt8)):=by
 refine⟨by kernel_rfl,fun w0 ro vs hg hro hvs=>?_⟩;simp only[qk,qj]at hvs;obtain⟨v,vr,e1,rfl,v2,vr2,rfl,rfl,rfl⟩:=hvs;have:vs = #[.string ⟨s.toArray⟩,.int .u8 c]:=by rw[<- qsM (xs:=vs),e1]
 subst this;refine (qn1 _ _ _).mono ?_;rintro e w' ⟨rfl,rfl⟩;exact⟨_,ro,rfl,.refl _ _,fun _ _ _ h=>h,hro,fun _ _ _ h _=>h,by simp[qj]⟩
end Go.Proofs.YtpgcmnabljandaaGreatDoor
end
