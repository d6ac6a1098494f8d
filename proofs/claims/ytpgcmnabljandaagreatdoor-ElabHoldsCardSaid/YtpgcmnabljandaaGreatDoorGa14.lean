/- A part of the proof: AbsRunP AbsBw AbsBw2 AbsAc. -/
import Derived.Test.YtpgcmnabljandaaGreatDoorGa13
import Derived.Test.YtpgcmnabljandaaGreatDoorGa09
import Derived.KernelRfl
import Derived.Test.YtpgcmnabljandaaGreatDoorGa12
set_option linter.unusedVariables false
set_option maxRecDepth 100000
set_option linter.unusedSimpArgs false
section
namespace Go.Proofs.YtpgcmnabljandaaGreatDoor
open Go Go.Abs
inductive Tr where
 | leaf (k:Nat) (i:TI)
 | node (k:Nat) (l r:Tr)
def Tr.get:Tr→Nat→Option TI
 | .leaf k i,t=>match Nat.beq t k with
  | true=>some i
  | false=>none
 | .node k l r,t=>match Nat.blt t k with
  | true=>l.get t
  | false=>r.get t
def Tr.ok:Tr→Prop
 | .leaf k i=>Dof Tryz.prog k=some i
 | .node _ l r=>l.ok∧r.ok
theorem Tr.get_spec:∀ (T:Tr) {t:Nat} {i:TI},T.ok→T.get t=some i→Dof Tryz.prog t=some i
 | .leaf k i,t,j,h,e=>by
  simp only [Tr.get] at e
  split at e
  · rename_i hb;rw [Nat.eq_of_beq_eq_true hb];cases e;exact h
  · cases e
 | .node k l r,t,j,h,e=>by
  simp only [Tr.get] at e
  split at e
  · exact Tr.get_spec l h.1 e
  · exact Tr.get_spec r h.2 e
def typeTree:Tr:=.node 128 (.node 36 (.node 20 (.node 8 (.node 4 (.node 3 (.leaf 2 ⟨1,8,[AV.int IntKind.i64 0],AV.int IntKind.i64 0,TD.int IntKind.i64,true⟩) (.leaf 3 ⟨1,8,[AV.int IntKind.i64 0],AV.int IntKind.i64 0,TD.int IntKind.i64,true⟩)) (.node 5 (.leaf 4 ⟨1,1,[AV.bool false],AV.bool false,TD.bool,true⟩) (.node 6 (.leaf 5 ⟨1,1,[AV.int IntKind.u8 0],AV.int IntKind.u8 0,TD.int IntKind.u8,true⟩) (.leaf 6 ⟨1,1,[AV.int IntKind.u8 0],AV.int IntKind.u8 0,TD.int IntKind.u8,true⟩)))) (.node 10 (.node 9 (.leaf 8 ⟨4,24,[AV.int IntKind.i64 0,AV.int IntKind.i64 0,AV.bool false,AV.int IntKind.u8 0],AV.agg [AV.int IntKind.i64 0,AV.int IntKind.i64 0,AV.bool false,AV.int IntKind.u8 0],TD.st [(0,2),(1,3),(2,4),(3,6)],true⟩) (.leaf 9 ⟨1,16,[AV.str []],AV.str [],TD.str,true⟩)) (.node 11 (.leaf 10 ⟨1,16,[AV.str []],AV.str [],TD.str,true⟩) (.node 16 (.leaf 11 ⟨1,16,[AV.str []],AV.str [],TD.str,true⟩) (.leaf 16 ⟨1,8,[AV.nilp],AV.nilp,TD.ptr 351,true⟩))))) (.node 25 (.node 22 (.node 21 (.leaf 20 ⟨1,16,[AV.any],AV.any,TD.other,true⟩) (.leaf 21 ⟨1,4,[AV.int IntKind.i32 0],AV.int IntKind.i32 0,TD.int IntKind.i32,true⟩)) (.node 23 (.leaf 22 ⟨1,24,[AV.sl 0 [] Tok.nil],AV.sl 0 [] Tok.nil,TD.sl 43,true⟩) (.node 24 (.leaf 23 ⟨1,24,[AV.sl 0 [] Tok.nil],AV.sl 0 [] Tok.nil,TD.sl 9,true⟩) (.leaf 24 ⟨1,24,[AV.sl 0 [] Tok.nil],AV.sl 0 [] Tok.nil,TD.sl 68,true⟩)))) (.node 32 (.node 28 (.leaf 25 ⟨1,24,[AV.sl 0 [] Tok.nil],AV.sl 0 [] Tok.nil,TD.sl 107,true⟩) (.node 31 (.leaf 28 ⟨1,24,[AV.sl 0 [] Tok.nil],AV.sl 0 [] Tok.nil,TD.sl 3,true⟩) (.leaf 31 ⟨1,24,[AV.sl 0 [] Tok.nil],AV.sl 0 [] Tok.nil,TD.sl 65,true⟩))) (.node 33 (.leaf 32 ⟨1,24,[AV.sl 0 [] Tok.nil],AV.sl 0 [] Tok.nil,TD.sl 55,true⟩) (.node 34 (.leaf 33 ⟨1,24,[AV.sl 0 [] Tok.nil],AV.sl 0 [] Tok.nil,TD.sl 118,true⟩) (.leaf 34 ⟨1,24,[AV.sl 0 [] Tok.nil],AV.sl 0 [] Tok.nil,TD.sl 28,true⟩)))))) (.node 83 (.node 52 (.node 40 (.node 37 (.leaf 36 ⟨5,120,[AV.sl 0 [] Tok.nil,AV.sl 0 [] Tok.nil,AV.sl 0 [] Tok.nil,AV.sl 0 [] Tok.nil,AV.sl 0 [] Tok.nil],AV.agg [AV.sl 0 [] Tok.nil,AV.sl 0 [] Tok.nil,AV.sl 0 [] Tok.nil,AV.sl 0 [] Tok.nil,AV.sl 0 [] Tok.nil],TD.st [(0,31),(1,32),(2,32),(3,33),(4,34)],true⟩) (.leaf 37 ⟨1,8,[AV.int IntKind.i64 0],AV.int IntKind.i64 0,TD.int IntKind.i64,true⟩)) (.node 41 (.leaf 40 ⟨1,24,[AV.sl 0 [] Tok.nil],AV.sl 0 [] Tok.nil,TD.sl 140,true⟩) (.node 43 (.leaf 41 ⟨1,24,[AV.sl 0 [] Tok.nil],AV.sl 0 [] Tok.nil,TD.sl 52,true⟩) (.leaf 43 ⟨4,80,[AV.str [],AV.str [],AV.sl 0 [] Tok.nil,AV.sl 0 [] Tok.nil],AV.agg [AV.str [],AV.str [],AV.sl 0 [] Tok.nil,AV.sl 0 [] Tok.nil],TD.st [(0,9),(1,9),(2,40),(3,41)],true⟩)))) (.node 65 (.node 55 (.leaf 52 ⟨2,40,[AV.str [],AV.sl 0 [] Tok.nil],AV.agg [AV.str [],AV.sl 0 [] Tok.nil],TD.st [(0,9),(1,24)],true⟩) (.node 64 (.leaf 55 ⟨4,56,[AV.int IntKind.i64 0,AV.int IntKind.i64 0,AV.str [],AV.sl 0 [] Tok.nil],AV.agg [AV.int IntKind.i64 0,AV.int IntKind.i64 0,AV.str [],AV.sl 0 [] Tok.nil],TD.st [(0,3),(1,3),(2,9),(3,32)],true⟩) (.leaf 64 ⟨4,40,[AV.str [],AV.int IntKind.i64 0,AV.int IntKind.i64 0,AV.int IntKind.i64 0],AV.agg [AV.str [],AV.int IntKind.i64 0,AV.int IntKind.i64 0,AV.int IntKind.i64 0],TD.st [(0,9),(1,3),(2,3),(3,3)],true⟩))) (.node 66 (.leaf 65 ⟨4,40,[AV.str [],AV.int IntKind.i64 0,AV.int IntKind.i64 0,AV.int IntKind.i64 0],AV.agg [AV.str [],AV.int IntKind.i64 0,AV.int IntKind.i64 0,AV.int IntKind.i64 0],TD.st [(0,9),(1,3),(2,3),(3,3)],true⟩) (.node 68 (.leaf 66 ⟨1,24,[AV.sl 0 [] Tok.nil],AV.sl 0 [] Tok.nil,TD.sl 155,true⟩) (.leaf 68 ⟨12,216,[AV.int IntKind.i64 0,AV.int IntKind.i64 0,AV.int IntKind.i64 0,AV.str [],AV.sl 0 [] Tok.nil,AV.str [],AV.str [],AV.sl 0 [] Tok.nil,AV.sl 0 [] Tok.nil,AV.sl 0 [] Tok.nil,AV.sl 0 [] Tok.nil,AV.sl 0 [] Tok.nil],AV.agg [AV.int IntKind.i64 0,AV.int IntKind.i64 0,AV.int IntKind.i64 0,AV.str [],AV.sl 0 [] Tok.nil,AV.str [],AV.str [],AV.sl 0 [] Tok.nil,AV.sl 0 [] Tok.nil,AV.sl 0 [] Tok.nil,AV.sl 0 [] Tok.nil,AV.sl 0 [] Tok.nil],TD.st [(0,3),(1,55),(5,9),(6,9),(7,66),(8,24),(9,24),(10,23),(11,23)],true⟩))))) (.node 94 (.node 86 (.node 84 (.leaf 83 ⟨1,8,[AV.nilf],AV.nilf,TD.fn,true⟩) (.leaf 84 ⟨1,8,[AV.nilp],AV.nilp,TD.ptr 88,true⟩)) (.node 88 (.leaf 86 ⟨1,8,[AV.nilm],AV.nilm,TD.map 3 28,true⟩) (.node 89 (.leaf 88 ⟨10,208,[AV.str [],AV.str [],AV.sl 0 [] Tok.nil,AV.sl 0 [] Tok.nil,AV.sl 0 [] Tok.nil,AV.sl 0 [] Tok.nil,AV.sl 0 [] Tok.nil,AV.sl 0 [] Tok.nil,AV.sl 0 [] Tok.nil,AV.nilm],AV.agg [AV.str [],AV.str [],AV.sl 0 [] Tok.nil,AV.sl 0 [] Tok.nil,AV.sl 0 [] Tok.nil,AV.sl 0 [] Tok.nil,AV.sl 0 [] Tok.nil,AV.sl 0 [] Tok.nil,AV.sl 0 [] Tok.nil,AV.nilm],TD.st [(0,43),(4,36),(9,86)],true⟩) (.leaf 89 ⟨1,24,[AV.sl 0 [] Tok.nil],AV.sl 0 [] Tok.nil,TD.sl 24,true⟩)))) (.node 103 (.node 98 (.leaf 94 ⟨1,8,[AV.nilf],AV.nilf,TD.fn,true⟩) (.node 102 (.leaf 98 ⟨1,8,[AV.nilp],AV.nilp,TD.ptr 32,true⟩) (.leaf 102 ⟨5,88,[AV.str [],AV.str [],AV.sl 0 [] Tok.nil,AV.sl 0 [] Tok.nil,AV.bool false],AV.agg [AV.str [],AV.str [],AV.sl 0 [] Tok.nil,AV.sl 0 [] Tok.nil,AV.bool false],TD.st [(0,43),(4,4)],true⟩))) (.node 107 (.leaf 103 ⟨1,8,[AV.nilp],AV.nilp,TD.ptr 102,true⟩) (.node 118 (.leaf 107 ⟨2,24,[AV.str [],AV.int IntKind.i64 0],AV.agg [AV.str [],AV.int IntKind.i64 0],TD.st [(0,9),(1,3)],true⟩) (.leaf 118 ⟨2,32,[AV.int IntKind.i64 0,AV.sl 0 [] Tok.nil],AV.agg [AV.int IntKind.i64 0,AV.sl 0 [] Tok.nil],TD.st [(0,3),(1,66)],true⟩))))))) (.node 222 (.node 161 (.node 147 (.node 137 (.node 132 (.leaf 128 ⟨1,8,[AV.nilf],AV.nilf,TD.fn,true⟩) (.leaf 132 ⟨1,8,[AV.nilf],AV.nilf,TD.fn,true⟩)) (.node 140 (.leaf 137 ⟨1,24,[AV.sl 0 [] Tok.nil],AV.agg [AV.sl 0 [] Tok.nil],TD.st [(0,25)],true⟩) (.node 145 (.leaf 140 ⟨5,48,[AV.str [],AV.int IntKind.i64 0,AV.int IntKind.i64 0,AV.int IntKind.i64 0,AV.int IntKind.i64 0],AV.agg [AV.str [],AV.int IntKind.i64 0,AV.int IntKind.i64 0,AV.int IntKind.i64 0,AV.int IntKind.i64 0],TD.st [(0,9),(1,3),(2,3),(3,3),(4,3)],true⟩) (.leaf 145 ⟨1,8,[AV.nilp],AV.nilp,TD.ptr 150,true⟩)))) (.node 155 (.node 150 (.leaf 147 ⟨1,8,[AV.nilm],AV.nilm,TD.map 9 3,true⟩) (.leaf 150 ⟨3,40,[AV.nilm,AV.sl 0 [] Tok.nil,AV.bool false],AV.agg [AV.nilm,AV.sl 0 [] Tok.nil,AV.bool false],TD.st [(0,147),(1,24),(2,4)],true⟩)) (.node 156 (.leaf 155 ⟨4,32,[AV.int IntKind.i64 0,AV.int IntKind.i64 0,AV.int IntKind.i64 0,AV.bool false],AV.agg [AV.int IntKind.i64 0,AV.int IntKind.i64 0,AV.int IntKind.i64 0,AV.bool false],TD.st [(0,3),(1,3),(2,3),(3,4)],true⟩) (.node 159 (.leaf 156 ⟨1,24,[AV.sl 0 [] Tok.nil],AV.sl 0 [] Tok.nil,TD.sl 94,true⟩) (.leaf 159 ⟨1,8,[AV.nilf],AV.nilf,TD.fn,true⟩))))) (.node 181 (.node 167 (.node 162 (.leaf 161 ⟨1,8,[AV.nilf],AV.nilf,TD.fn,true⟩) (.leaf 162 ⟨1,8,[AV.nilm],AV.nilm,TD.map 3 3,true⟩)) (.node 175 (.leaf 167 ⟨1,8,[AV.nilf],AV.nilf,TD.fn,true⟩) (.node 178 (.leaf 175 ⟨1,8,[AV.nilf],AV.nilf,TD.fn,true⟩) (.leaf 178 ⟨1,8,[AV.nilf],AV.nilf,TD.fn,true⟩)))) (.node 215 (.node 186 (.leaf 181 ⟨1,8,[AV.nilf],AV.nilf,TD.fn,true⟩) (.node 213 (.leaf 186 ⟨1,24,[AV.sl 0 [] Tok.nil],AV.sl 0 [] Tok.nil,TD.sl 4,true⟩) (.leaf 213 ⟨1,8,[AV.nilf],AV.nilf,TD.fn,true⟩))) (.node 220 (.leaf 215 ⟨1,8,[AV.nilf],AV.nilf,TD.fn,true⟩) (.node 221 (.leaf 220 ⟨2,32,[AV.int IntKind.i64 0,AV.sl 0 [] Tok.nil],AV.agg [AV.int IntKind.i64 0,AV.sl 0 [] Tok.nil],TD.st [(0,3),(1,23)],true⟩) (.leaf 221 ⟨1,8,[AV.nilf],AV.nilf,TD.fn,true⟩)))))) (.node 299 (.node 249 (.node 232 (.node 230 (.leaf 222 ⟨1,8,[AV.nilp],AV.nilp,TD.ptr 55,true⟩) (.leaf 230 ⟨1,8,[AV.nilf],AV.nilf,TD.fn,true⟩)) (.node 236 (.leaf 232 ⟨1,8,[AV.nilf],AV.nilf,TD.fn,true⟩) (.node 241 (.leaf 236 ⟨1,24,[AV.sl 0 [] Tok.nil],AV.sl 0 [] Tok.nil,TD.sl 32,true⟩) (.leaf 241 ⟨1,8,[AV.nilf],AV.nilf,TD.fn,true⟩)))) (.node 294 (.node 273 (.leaf 249 ⟨1,24,[AV.sl 0 [] Tok.nil],AV.sl 0 [] Tok.nil,TD.sl 5,true⟩) (.node 284 (.leaf 273 ⟨1,8,[AV.nilf],AV.nilf,TD.fn,true⟩) (.leaf 284 ⟨1,8,[AV.int IntKind.u64 0],AV.int IntKind.u64 0,TD.int IntKind.u64,true⟩))) (.node 295 (.leaf 294 ⟨1,2,[AV.int IntKind.u16 0],AV.int IntKind.u16 0,TD.int IntKind.u16,true⟩) (.node 296 (.leaf 295 ⟨1,2,[AV.int IntKind.u16 0],AV.int IntKind.u16 0,TD.int IntKind.u16,true⟩) (.leaf 296 ⟨1,8,[AV.nilf],AV.nilf,TD.fn,true⟩))))) (.node 325 (.node 303 (.node 302 (.leaf 299 ⟨1,8,[AV.nilf],AV.nilf,TD.fn,true⟩) (.leaf 302 ⟨24,24,[AV.int IntKind.u8 0,AV.int IntKind.u8 0,AV.int IntKind.u8 0,AV.int IntKind.u8 0,AV.int IntKind.u8 0,AV.int IntKind.u8 0,AV.int IntKind.u8 0,AV.int IntKind.u8 0,AV.int IntKind.u8 0,AV.int IntKind.u8 0,AV.int IntKind.u8 0,AV.int IntKind.u8 0,AV.int IntKind.u8 0,AV.int IntKind.u8 0,AV.int IntKind.u8 0,AV.int IntKind.u8 0,AV.int IntKind.u8 0,AV.int IntKind.u8 0,AV.int IntKind.u8 0,AV.int IntKind.u8 0,AV.int IntKind.u8 0,AV.int IntKind.u8 0,AV.int IntKind.u8 0,AV.int IntKind.u8 0],AV.agg [AV.int IntKind.u8 0,AV.int IntKind.u8 0,AV.int IntKind.u8 0,AV.int IntKind.u8 0,AV.int IntKind.u8 0,AV.int IntKind.u8 0,AV.int IntKind.u8 0,AV.int IntKind.u8 0,AV.int IntKind.u8 0,AV.int IntKind.u8 0,AV.int IntKind.u8 0,AV.int IntKind.u8 0,AV.int IntKind.u8 0,AV.int IntKind.u8 0,AV.int IntKind.u8 0,AV.int IntKind.u8 0,AV.int IntKind.u8 0,AV.int IntKind.u8 0,AV.int IntKind.u8 0,AV.int IntKind.u8 0,AV.int IntKind.u8 0,AV.int IntKind.u8 0,AV.int IntKind.u8 0,AV.int IntKind.u8 0],TD.arr 24 5,true⟩)) (.node 309 (.leaf 303 ⟨1,8,[AV.int IntKind.u64 0],AV.int IntKind.u64 0,TD.int IntKind.u64,true⟩) (.node 311 (.leaf 309 ⟨7,7,[AV.bool false,AV.bool false,AV.bool false,AV.bool false,AV.bool false,AV.bool false,AV.bool false],AV.agg [AV.bool false,AV.bool false,AV.bool false,AV.bool false,AV.bool false,AV.bool false,AV.bool false],TD.st [(0,4),(1,4),(2,4),(3,4),(4,4),(5,4),(6,4)],true⟩) (.leaf 311 ⟨1,8,[AV.nilm],AV.nilm,TD.map 3 309,true⟩)))) (.node 332 (.node 328 (.leaf 325 ⟨1,8,[AV.nilf],AV.nilf,TD.fn,true⟩) (.node 329 (.leaf 328 ⟨20,160,[AV.int IntKind.u64 0,AV.int IntKind.u64 0,AV.int IntKind.u64 0,AV.int IntKind.u64 0,AV.int IntKind.u64 0,AV.int IntKind.u64 0,AV.int IntKind.u64 0,AV.int IntKind.u64 0,AV.int IntKind.u64 0,AV.int IntKind.u64 0,AV.int IntKind.u64 0,AV.int IntKind.u64 0,AV.int IntKind.u64 0,AV.int IntKind.u64 0,AV.int IntKind.u64 0,AV.int IntKind.u64 0,AV.int IntKind.u64 0,AV.int IntKind.u64 0,AV.int IntKind.u64 0,AV.int IntKind.u64 0],AV.agg [AV.int IntKind.u64 0,AV.int IntKind.u64 0,AV.int IntKind.u64 0,AV.int IntKind.u64 0,AV.int IntKind.u64 0,AV.int IntKind.u64 0,AV.int IntKind.u64 0,AV.int IntKind.u64 0,AV.int IntKind.u64 0,AV.int IntKind.u64 0,AV.int IntKind.u64 0,AV.int IntKind.u64 0,AV.int IntKind.u64 0,AV.int IntKind.u64 0,AV.int IntKind.u64 0,AV.int IntKind.u64 0,AV.int IntKind.u64 0,AV.int IntKind.u64 0,AV.int IntKind.u64 0,AV.int IntKind.u64 0],TD.arr 20 303,true⟩) (.leaf 329 ⟨1,4,[AV.int IntKind.u32 0],AV.int IntKind.u32 0,TD.int IntKind.u32,true⟩))) (.node 344 (.leaf 332 ⟨1,24,[AV.sl 0 [] Tok.nil],AV.sl 0 [] Tok.nil,TD.sl 23,true⟩) (.node 351 (.leaf 344 ⟨32,32,[AV.int IntKind.u8 0,AV.int IntKind.u8 0,AV.int IntKind.u8 0,AV.int IntKind.u8 0,AV.int IntKind.u8 0,AV.int IntKind.u8 0,AV.int IntKind.u8 0,AV.int IntKind.u8 0,AV.int IntKind.u8 0,AV.int IntKind.u8 0,AV.int IntKind.u8 0,AV.int IntKind.u8 0,AV.int IntKind.u8 0,AV.int IntKind.u8 0,AV.int IntKind.u8 0,AV.int IntKind.u8 0,AV.int IntKind.u8 0,AV.int IntKind.u8 0,AV.int IntKind.u8 0,AV.int IntKind.u8 0,AV.int IntKind.u8 0,AV.int IntKind.u8 0,AV.int IntKind.u8 0,AV.int IntKind.u8 0,AV.int IntKind.u8 0,AV.int IntKind.u8 0,AV.int IntKind.u8 0,AV.int IntKind.u8 0,AV.int IntKind.u8 0,AV.int IntKind.u8 0,AV.int IntKind.u8 0,AV.int IntKind.u8 0],AV.agg [AV.int IntKind.u8 0,AV.int IntKind.u8 0,AV.int IntKind.u8 0,AV.int IntKind.u8 0,AV.int IntKind.u8 0,AV.int IntKind.u8 0,AV.int IntKind.u8 0,AV.int IntKind.u8 0,AV.int IntKind.u8 0,AV.int IntKind.u8 0,AV.int IntKind.u8 0,AV.int IntKind.u8 0,AV.int IntKind.u8 0,AV.int IntKind.u8 0,AV.int IntKind.u8 0,AV.int IntKind.u8 0,AV.int IntKind.u8 0,AV.int IntKind.u8 0,AV.int IntKind.u8 0,AV.int IntKind.u8 0,AV.int IntKind.u8 0,AV.int IntKind.u8 0,AV.int IntKind.u8 0,AV.int IntKind.u8 0,AV.int IntKind.u8 0,AV.int IntKind.u8 0,AV.int IntKind.u8 0,AV.int IntKind.u8 0,AV.int IntKind.u8 0,AV.int IntKind.u8 0,AV.int IntKind.u8 0,AV.int IntKind.u8 0],TD.arr 32 5,true⟩) (.leaf 351 ⟨0,0,[],AV.agg [],TD.other,false⟩)))))))
theorem typeTree_ok:typeTree.ok:=⟨⟨⟨⟨⟨⟨D2,D3⟩,⟨D4,⟨D5,D6⟩⟩⟩,⟨⟨D8,D9⟩,⟨D10,⟨D11,D16⟩⟩⟩⟩,⟨⟨⟨D20,D21⟩,⟨D22,⟨D23,D24⟩⟩⟩,⟨⟨D25,⟨D28,D31⟩⟩,⟨D32,⟨D33,D34⟩⟩⟩⟩⟩,⟨⟨⟨⟨D36,D37⟩,⟨D40,⟨D41,D43⟩⟩⟩,⟨⟨D52,⟨D55,D64⟩⟩,⟨D65,⟨D66,D68⟩⟩⟩⟩,⟨⟨⟨D83,D84⟩,⟨D86,⟨D88,D89⟩⟩⟩,⟨⟨D94,⟨D98,D102⟩⟩,⟨D103,⟨D107,D118⟩⟩⟩⟩⟩⟩,⟨⟨⟨⟨⟨D128,D132⟩,⟨D137,⟨D140,D145⟩⟩⟩,⟨⟨D147,D150⟩,⟨D155,⟨D156,D159⟩⟩⟩⟩,⟨⟨⟨D161,D162⟩,⟨D167,⟨D175,D178⟩⟩⟩,⟨⟨D181,⟨D186,D213⟩⟩,⟨D215,⟨D220,D221⟩⟩⟩⟩⟩,⟨⟨⟨⟨D222,D230⟩,⟨D232,⟨D236,D241⟩⟩⟩,⟨⟨D249,⟨D273,D284⟩⟩,⟨D294,⟨D295,D296⟩⟩⟩⟩,⟨⟨⟨D299,D302⟩,⟨D303,⟨D309,D311⟩⟩⟩,⟨⟨D325,⟨D328,D329⟩⟩,⟨D332,⟨D344,D351⟩⟩⟩⟩⟩⟩⟩
noncomputable def DD (t:Nat):Option TI:=match typeTree.get t with
 | some i=>some i
 | none=>Dof Tryz.prog t
theorem DD_eq:Dof Tryz.prog=DD:=funext fun t=>by
 unfold DD
 split
 · rename_i i h;exact Tr.get_spec _ typeTree_ok h
 · rfl
structure Look where
 o:Opts
 sh:Bool
noncomputable def bodF (L:Nat→Look) (g:Nat):Option Bod:=match Tryz.prog.funcs[g]? with
 | some fn=>match fn.body with
  | some c=>some ⟨fn.ntmps,c,fn.results.toList,(L g).o,(L g).sh⟩
  | none=>none
 | none=>none
noncomputable def okF (L:Nat→Look) (g:Nat):Bool:=match Tryz.prog.funcs[g]? with
 | some fn=>match fn.body with
  | some c => codeOk fn.ntmps (L g).o c && fn.name != "runtime.NumGoroutine"
  | none=>false
 | none=>false
noncomputable def FF (L:Nat→Look) (S:Nat) (g:Nat):Option Bod:=match Nat.testBit S g with
 | true=>bodF L g
 | false=>none
theorem lt_pow_of {S n g:Nat} (hS:S<2 ^ n) (hn:¬ g<n):S<2 ^ g:=Nat.lt_of_lt_of_le hS (Nat.pow_le_pow_right (Nat.succ_pos 1) (Nat.le_of_not_lt hn))
theorem FF_ok {G:Nat→AV} {L:Nat→Look} {S:Nat} (hbw:∀ g x k,(L g).o.bw.lookup x=some k→BwOk Tryz.prog G x k) (h:(List.range 512).all (fun g=>!Nat.testBit S g||okF L g)=true) (hS:S<2 ^ 512):BodOk Tryz.prog G (FF L S):=by
 intro g b hb
 unfold FF at hb
 split at hb
 case h_2=>cases hb
 rename_i ht
 have hg:g<512:=by
  apply Classical.byContradiction
  intro hn
  have:S<2 ^ g:=@lt_pow_of S 512 g hS hn
  rw [Nat.testBit_lt_two_pow this] at ht;cases ht
 have hk:=List.all_eq_true.1 h g (List.mem_range.2 hg)
 rw [ht] at hk
 simp only [Bool.not_true,Bool.false_or] at hk
 unfold okF at hk
 unfold bodF at hb
 split at hk
 · rename_i fn hfn
   rw [hfn] at hb
   simp only at hb
   split at hk
   · rename_i c hc
     rw [hc] at hb
     simp only [Option.some.injEq] at hb
     subst hb
     simp only [Bool.and_eq_true,bne_iff_ne,ne_eq] at hk
     exact⟨fn,hfn,hc,rfl,rfl,hk.1,hk.2,hbw g⟩
   · cases hk
 · cases hk
end Go.Proofs.YtpgcmnabljandaaGreatDoor
end
section
namespace Go.Abs
open Go Go.RowKit
section
variable {P:Program} {G:Nat→AV} {N:Nat} {env:Env} {σ:St} {w0:World} {ro0:Nat→Nat→Option Value} {K:Kn} {a:Act} {w:World}
theorem region_keep {ro:Option Nat} {n id t:Nat} {ops:Array Oper} {Q:Env→St→Prop} {Q':Exit→Act→World→Prop} (hw:WRel G w0 ro0 K σ w) (he:ERel K N env a) (hs:slotsOk N ops=true)
 (hk:∀ o∈ops.toList,o.dst≠some t) (h:vcR P G false ops false false ops.toList env σ Q)
 (hn:∀ K' env' σ' a' w',K.le K'→WRel G w0 ro0 K' σ' w'→ERel K' N env' a'→a'.defers=a.defers→a'.tmps.getD t undef=a.tmps.getD t undef→Q env' σ'→Q' .normal a' w') :
 (Code.region id ops false).wpIn (FR ro) n P Q' a w:=by
 refine wpIn_region_list ?_
 have:=vcR_soundIn hs (ro:=ro) (n:=n) (more:=[]) ops.toList env σ K a w (by simp) h hw he (Q':=Q') fun K' env' σ' a' w' h1 h2 h3 h4 h5 h6=>hn K' env' σ' a' w' h1 h2 h3 h4 (h5 t hk) h6
 simpa using this
theorem row_len (hw:WRel G w0 ro0 K σ w) {b i sz:Nat} {rows:List (List AV)} {tok:Tok} {r:List AV} (hb:σ.H[b]?=some (.cells [.sl sz rows tok])) (hr:rows[i]?=some r):r.length=sz∧r.all AV.atom=true:=by
 obtain⟨B,_,_,_,⟨cs,el,_,_,_,h⟩,_⟩:=hw.blk b _ hb
 obtain⟨v,_,hv⟩:=h 0 (.sl sz rows tok) rfl
 simp only [VRel] at hv
 rcases hv with ⟨_,rfl,_⟩|⟨B',off,cap,_,_,hrows,_⟩
 · simp at hr
 · obtain⟨h1,h2,_⟩:=RowsAt.get B' sz rows off hrows i r hr
   exact⟨h1,h2⟩
end
end Go.Abs
namespace Go.Proofs.YtpgcmnabljandaaGreatDoor
open Go Go.Abs
def bwR0 : Array Oper := #[{ dst := some 4, op := Op.load 22 (Operand.tmp 1), type := 22, pos := "iter.go:28", after := #[], guard := none },
 { dst := some 5, op := Op.call { callee := Callee.builtin Builtin.len, args := #[Operand.tmp 4], argTypes := #[22] }, type := 3, pos := "iter.go:28", after := #[{ on := 0, ground := Ground.data }], guard := none },
 { dst := some 6, op := Op.binOp BinOp.sub 3 (Operand.tmp 5) (Operand.const (Value.int IntKind.i64 1)) 3, type := 3, pos := "iter.go:28", after := #[{ on := 1, ground := Ground.data }], guard := none },
 { dst := some 3, op := Op.assign (Operand.tmp 6), type := 3, pos := "iter.go:28", after := #[{ on := 2, ground := Ground.data }, { on := 0, ground := Ground.phase }, { on := 1, ground := Ground.phase }, { on := 2, ground := Ground.phase }], guard := none }]
def bwR1 : Array Oper := #[{ dst := some 7, op := Op.move (Operand.tmp 3), type := 3, pos := "iter.go:28", after := #[], guard := none },
 { dst := some 8, op := Op.binOp BinOp.geq 3 (Operand.tmp 7) (Operand.const (Value.int IntKind.i64 0)) 3, type := 4, pos := "iter.go:28", after := #[{ on := 0, ground := Ground.data }], guard := none }]
def bwO0 : Oper := { dst := some 11, op := Op.move (Operand.tmp 0), type := 230, pos := "iter.go:29", after := #[], guard := none }
def bwM : List Oper := [{ dst := some 12, op := Op.move (Operand.tmp 3), type := 3, pos := "iter.go:29", after := #[], guard := none },
 { dst := some 13, op := Op.load 22 (Operand.tmp 1), type := 22, pos := "iter.go:29", after := #[], guard := none },
 { dst := some 14, op := Op.move (Operand.tmp 3), type := 3, pos := "iter.go:29", after := #[], guard := none },
 { dst := some 15, op := Op.indexAddr 22 (Operand.tmp 13) (Operand.tmp 14), type := 0, pos := "iter.go:29", after := #[{ on := 2, ground := Ground.data }, { on := 3, ground := Ground.data }], guard := none },
 { dst := some 16, op := Op.load 43 (Operand.tmp 15), type := 43, pos := "iter.go:29", after := #[{ on := 4, ground := Ground.data }], guard := none }]
def bwO6 : Oper := { dst := some 17, op := Op.call { callee := Callee.value (Operand.tmp 11), args := #[Operand.tmp 12, Operand.tmp 16], argTypes := #[3, 43] }, type := 4, pos := "iter.go:29", after := #[{ on := 0, ground := Ground.data }, { on := 1, ground := Ground.data }, { on := 5, ground := Ground.data }], guard := none }
def bwO7 : Oper := { dst := some 18, op := Op.unOp UnOp.not 4 (Operand.tmp 17), type := 4, pos := "iter.go:29", after := #[{ on := 6, ground := Ground.data }], guard := none }
def bwR3:Array Oper:=(bwO0::(bwM++[bwO6,bwO7])).toArray
def bwR2 : Array Oper := #[{ dst := some 9, op := Op.move (Operand.tmp 3), type := 3, pos := "iter.go:28", after := #[], guard := none },
 { dst := some 10, op := Op.binOp BinOp.sub 3 (Operand.tmp 9) (Operand.const (Value.int IntKind.i64 1)) 3, type := 3, pos := "iter.go:28", after := #[{ on := 0, ground := Ground.data }], guard := none },
 { dst := some 3, op := Op.assign (Operand.tmp 10), type := 3, pos := "iter.go:28", after := #[{ on := 1, ground := Ground.data }, { on := 0, ground := Ground.phase }, { on := 1, ground := Ground.phase }], guard := none }]
def bwCode:Code:=.seq (.region 0 bwR0 false) (.block 0 (.loop (.seq (.seq (.region 1 bwR1 false) (.cond (.tmp 8) .skip (.exit 0))) (.seq (.block 1 (.seq (.region 3 bwR3 false) (.cond (.tmp 18) .ret .skip))) (.region 2 bwR2 false)))))
theorem bwBody:Tryz.f191.body=some bwCode:=rfl
section
variable {G:Nat→AV} {w0:World} {ro0:Nat→Nat→Option Value} {b L B:Nat} {K:Kn} {σ:St} {env:Env} {a:Act} {w:World} {n:Nat} {Q':Exit→Act→World→Prop}
theorem bw0 {sz:Nat} {rows:List (List AV)} {tok:Tok} (h1:env 1=.ptr b 0) (hb:σ.H[b]?=some (.cells [.sl sz rows tok])) (hlen:rows.length<2 ^ 62) :
 vcR Tryz.prog G false bwR0 false false bwR0.toList env σ (fun env' σ'=>σ'=σ∧env' 1=.ptr b 0∧env' 3=.int .i64 ((rows.length:Int)-1)):=by
 simp [bwR0,h1,hb]
 exact wr (by omega) (by omega)
theorem bw1 {i:Int} (h1:env 1=.ptr b 0) (h3:env 3=.int .i64 i) :
 vcR Tryz.prog G false bwR1 false false bwR1.toList env σ (fun env' σ'=>σ'=σ∧env' 1=.ptr b 0∧env' 3=.int .i64 i∧env' 8=.bool (decide (0≤i))):=by
 simp [bwR1,h1,h3]
theorem bw2 {i:Nat} (h1:env 1=.ptr b 0) (h3:env 3=.int .i64 i) (hi:i<2 ^ 62) :
 vcR Tryz.prog G false bwR2 false false bwR2.toList env σ (fun env' σ'=>σ'=σ∧env' 1=.ptr b 0∧env' 3=.int .i64 ((i:Int)-1)):=by
 simp [bwR2,h1,h3]
 exact wr (by omega) (by omega)
theorem bwm {i:Nat} {rows:List (List AV)} {tok:Tok} {r:List AV} (h1:env 1=.ptr b 0) (h3:env 3=.int .i64 i) (hb:σ.H[b]?=some (.cells [.sl 4 rows tok])) (hr:rows[i]?=some r) (hl:r.length=4) :
 vcR Tryz.prog G false bwR3 false false bwM env σ (fun env' σ'=>σ'=σ∧env' 1=.ptr b 0∧env' 3=.int .i64 i∧env' 12=.int .i64 i∧env' 16=.agg r):=by
 obtain⟨x0,x1,x2,x3,rfl⟩:∃ x0 x1 x2 x3,r=[x0,x1,x2,x3]:=by
  match r,hl with
  | [x0,x1,x2,x3],_=>exact⟨_,_,_,_,rfl⟩
 simp [bwM,h1,h3,hb,hr]
theorem bw7 {i:Nat} (h1:env 1=.ptr b 0) (h3:env 3=.int .i64 i) (h17:env 17=.bool true) :
 vcR Tryz.prog G false bwR3 false false [bwO7] env σ (fun env' σ'=>σ'=σ∧env' 1=.ptr b 0∧env' 3=.int .i64 i∧env' 18=.bool false):=by
 simp [bwO7,h1,h3,h17]
theorem bwRound {S:Nat→St→Prop} {R:Exit→Act→World→Prop} (hround:∀ i σ' K' w',S (i+1) σ'→K.le K'→WRel G w0 ro0 K' σ' w'→∃ rows tok r,σ'.H[b]?=some (.cells [.sl 4 rows tok])∧rows[i]?=some r∧∀ v,VRel K' (.agg r) v →
 ∃ f tmps asn body,(Instr.yield L #[.int .i64 i,v]).run Tryz.prog w'=.ok (.round L f tmps asn body) w' ∧
  RoundIn Fence.wide 0 Tryz.prog L f tmps asn body w' (fun e w''=>e=.returned (.bool true)∧∃ K'' σ'',K'.le K''∧WRel G w0 ro0 K'' σ'' w''∧S i σ''))
 (hR:∀ K' σ' env' a' w',K.le K'→WRel G w0 ro0 K' σ' w'→ERel K' 19 env' a'→a'.defers=[]→S 0 σ'→R (.exit 0) a' w')
 (hw:WRel G w0 ro0 K σ w) (he:ERel K 19 env a) (hd:a.defers=[]) (ht:a.tmps.getD 0 undef=.func (.yield L) #[] #[]) (h1:env 1=.ptr b 0) {m:Nat} (h3:env 3=.int .i64 ((m:Int)-1)) (hm:m<2 ^ 62) (hS:S m σ) :
 Code.wpIn (FR none) 0 Tryz.prog (.loop (.seq (.seq (.region 1 bwR1 false) (.cond (.tmp 8) .skip (.exit 0))) (.seq (.block 1 (.seq (.region 3 bwR3 false) (.cond (.tmp 18) .ret .skip))) (.region 2 bwR2 false)))) R a w:=by
 refine wpIn_loop_ghost (fun n a w=>∃ K' env σ,K.le K'∧WRel G w0 ro0 K' σ w∧ERel K' 19 env a∧a.defers=[]∧a.tmps.getD 0 undef=.func (.yield L) #[] #[]∧env 1=.ptr b 0∧env 3=.int .i64 ((n:Int)-1)∧n<2 ^ 62∧S n σ) m
  ⟨K,env,σ,Kn.le_refl K,hw,he,hd,ht,h1,h3,hm,hS⟩ ?_
 clear hw he hd ht h1 h3 hm hS
 rintro n a w ⟨K1,env1,σ1,hle1,hw1,he1,hd1,ht1,e1,e3,hn,hS⟩
 refine wpIn_seq (wpIn_seq (region_keep (t:=0) hw1 he1 (by kernel_rfl) (by simp [bwR1]) (bw1 e1 e3) ?_))
 rintro K2 env2 σ2 a2 w2 hle2 hw2 he2 hd2 ht2 ⟨rfl,f1,f3,f8⟩
 have hc:=ev_rel hw2 he2 (.tmp 8)
 simp only [ev,f8,VRel] at hc
 refine wpIn_cond_split hc (fun hpos=>wpIn_skip ?_) (fun hneg=>wpIn_exit ?_)
 rotate_left
 · have:n=0:=by simp at hneg;omega
   subst this
   exact hR K2 σ2 env2 a2 w2 (Kn.le_trans hle1 hle2) hw2 he2 (hd2.trans hd1) hS
 obtain⟨i,rfl⟩:∃ i,n=i+1:=⟨n-1,by simp at hpos;omega⟩
 have f3:env2 3=.int .i64 (i:Int):=by rw [f3];congr 1;omega
 have ht2:=ht2.trans ht1
 have hd2:=hd2.trans hd1
 have hle2:=Kn.le_trans hle1 hle2
 obtain⟨rows,tok,r,hb,hr,_⟩:=hround i σ2 K2 w2 hS hle2 hw2
 have hlr:=(row_len hw2 hb hr).1
 refine wpIn_seq (wpIn_block (wpIn_seq (wpIn_region_list ?_)))
 -- the first operation
 show wpListIn (FR none) 0 Tryz.prog bwR3 _ (bwO0::(bwM++[bwO6,bwO7])) a2 w2
 unfold wpListIn
 rw [if_pos (show Region.wanted bwO0 (yielded bwR3 a2.tmps)=true from rfl)]
 refine⟨fun _ _=>trivial,?_⟩
 show wpListIn (FR none) 0 Tryz.prog bwR3 _ (bwM++[bwO6,bwO7]) (a2.put (some 11) (a2.tmps.getD 0 undef)) w2
 have he3:ERel K2 19 (upd env2 (some 11) .any) (a2.put (some 11) (a2.tmps.getD 0 undef)):=he2.put (fun d hd=>by cases hd;decide) (by simp [VRel])
 have hsz:a2.tmps.size=19:=he2.size
 refine vcR_soundIn (ro:=none) (n:=0) (by kernel_rfl) bwM _ σ2 K2 _ w2 (by simp [bwR3];intro o ho;exact .inr (.inl ho)) (bwm (by simpa using f1) (by simpa using f3) hb hr hlr) hw2 he3 ?_
 rintro K4 env4 σ4 a4 w4 hle4 hw4 he4 hd4 ht4 ⟨rfl,g1,g3,g12,g16⟩
 have t11:=ht4 11 (by simp [bwM])
 have t0:=ht4 0 (by simp [bwM])
 rw [ht2] at t0 t11
 have t11:a4.tmps.getD 11 undef=.func (.yield L) #[] #[]:=by rw [t11];simp [Act.put,hsz]
 have t0:a4.tmps.getD 0 undef=.func (.yield L) #[] #[]:=by rw [t0];simp [Act.put,Array.getElem?_setIfInBounds];simpa using ht2
 have v12:=he4.val 12
 rw [g12] at v12
 simp only [VRel] at v12
 have v16:=he4.val 16
 rw [g16] at v16
 obtain⟨rows',tok',r',hb',hr',hyield⟩:=hround i σ4 K4 w4 hS (Kn.le_trans hle2 hle4) hw4
 have:r'=r:=by
  rw [hb] at hb'
  cases hb'
  rw [hr] at hr'
  cases hr'
  rfl
 subst this
 obtain⟨f,tmps,asn,body,hy,hround'⟩:=hyield _ v16
 have hd4:a4.defers=[]:=by rw [hd4,Act.put_defers',hd2]
 unfold wpListIn
 rw [if_pos (show Region.wanted bwO6 (yielded bwR3 a4.tmps)=true from rfl)]
 refine⟨fun _ _=>trivial,?_⟩
 have hx:(Oper.semAt none a4.eval bwO6).run Tryz.prog w4=.ok (.round L f tmps asn body) w4:=by
  rw [Oper.semAt_none]
  have x11:a4.eval (.tmp 11)=.func (.yield L) #[] #[]:=t11
  have x12:a4.eval (.tmp 12)=.int .i64 i:=v12
  simp [execOp,bwO6,resolve,x11,x12,Deferred.ofValue,invoke]
  exact hy
 show bwO6.uponIn (FR none) 0 Tryz.prog a4 _ _ ((Oper.semAt none a4.eval bwO6).run Tryz.prog w4)
 rw [hx,Oper.uponIn_round]
 refine⟨fun e=>by simp [FR,Fence.wide] at e,RoundIn.mono (F:=FR none) (show RoundIn (FR none) 0 Tryz.prog L f tmps asn body w4 _ from hround') ?_⟩
 rintro e w5 ⟨rfl,K5,σ5,hle5,hw5,hS5⟩
 have he5:ERel K5 19 (upd env4 (some 17) (.bool true)) (a4.put (some 17) (.bool true)):=(he4.mono hle5).put (fun d hd=>by cases hd;decide) (by simp [VRel])
 show wpListIn (FR none) 0 Tryz.prog bwR3 _ ([bwO7]++[]) (a4.put (some 17) (.bool true)) w5
 refine vcR_soundIn (ro:=none) (n:=0) (N:=19) (ops:=bwR3) (by kernel_rfl) (more:=[]) [bwO7] _ σ5 K5 _ w5 (by simp [bwR3]) (bw7 (i:=i) (by simpa using g1) (by simpa using g3) (by simp)) hw5 he5 ?_
 rintro K6 env6 σ6 a6 w6 hle6 hw6 he6 hd6 ht6 ⟨rfl,k1,k3,k18⟩
 have t0':=ht6 0 (by simp [bwO7])
 have t0':a6.tmps.getD 0 undef=.func (.yield L) #[] #[]:=by
  rw [t0',← t0];simp [Act.put,Array.getElem?_setIfInBounds]
 have hd6:a6.defers=[]:=by rw [hd6,Act.put_defers',hd4]
 have hc6:=ev_rel hw6 he6 (.tmp 18)
 simp only [ev,k18,VRel] at hc6
 refine wpIn_cond_false hc6 (wpIn_skip ?_)
 refine region_keep (t:=0) hw6 he6 (by kernel_rfl) (by simp [bwR2]) (bw2 k1 k3 (by omega)) ?_
 rintro K7 env7 σ7 a7 w7 hle7 hw7 he7 hd7 ht7 ⟨rfl,l1,l3⟩
 exact⟨i,Nat.lt_succ_self i,K7,env7,σ7,Kn.le_trans hle2 (Kn.le_trans hle4 (Kn.le_trans hle5 (Kn.le_trans hle6 hle7))),hw7,he7,hd7.trans hd6,ht7.trans t0',l1,l3,by omega,hS5⟩
theorem bodied191:bodied Tryz.prog 191=true:=by
 simp [bodied,Tryz.func191,Tryz.f191]
end
end Go.Proofs.YtpgcmnabljandaaGreatDoor
end
section
namespace Go.Proofs.YtpgcmnabljandaaGreatDoor
open Go Go.Abs
theorem getD_first (x y:Value) (z:Array Value):(#[x,y]++z).getD 0 undef=x:=by simp [Array.getD_eq_getD_getElem?,Array.getElem?_append]
theorem bw191 (G:Nat→AV):BwOk Tryz.prog G 191 4:=by
 refine⟨bodied191,?_⟩
 intro w0 ro0 b L B K σ w sz rows tok S hw hB hb hlen hS hround
 refine callsIn_of_wp (F:=FR none) (n:=0) Tryz.func191 bwBody trivial ?_
 have hvs:VRels K [.any,.ptr b 0] (#[.func (.yield L) #[] #[],.pointer (some ⟨B,0,none⟩)]:Array Value).toList:=by
  simp only [VRels,VRel];exact⟨_,_,rfl,trivial,_,_,rfl,⟨B,hB,rfl⟩,rfl⟩
 have he:=ERel.enter (n:=19) hvs (by simp)
 have ht:((#[.func (.yield L) #[] #[],.pointer (some ⟨B,0,none⟩)]++Array.replicate (19-(#[.func (.yield L) #[] #[],.pointer (some ⟨B,0,none⟩)]:Array Value).size) undef):Array Value).getD 0 undef=.func (.yield L) #[] #[]:=getD_first _ _ _
 rw [Tryz.ntmps191]
 unfold bwCode
 have hs0:slotsOk 19 bwR0=true:=by kernel_rfl
 refine wpIn_seq (region_keep (t:=0) hw he hs0 (by simp [bwR0]) (bw0 (by simp [envOf]) hb hlen) ?_)
 rintro K1 env1 σ1 a1 w1 hle1 hw1 he1 hd1 ht1 ⟨rfl,e1,e3⟩
 refine wpIn_block (bwRound (S:=S) (fun i σ' K' w' hs hle=>hround i σ' K' w' hs (Kn.le_trans hle1 hle)) ?_ hw1 he1 hd1 (ht1.trans ht) e1 e3 hlen hS)
 intro K' σ' env' a' w' hle' hw' he' hd' hs'
 have hres:(results Tryz.f191 a'.tmps).run Tryz.prog w'=.ok (.tuple #[]) w':=by
  simp [results,Tryz.results191]
 simp only [Exit.inBlock,↓reduceIte]
 refine bodyPost_end hres hd' ?_
 exact⟨⟨_,rfl⟩,K',σ',Kn.le_trans hle1 hle',hw',hs'⟩
end Go.Proofs.YtpgcmnabljandaaGreatDoor
end
section
namespace Go.Abs
open Go Go.RowKit
def acEnd (P:Program) (rs:List ResultVar) (Q:AV→St→Prop) (env:Env) (σ:St):Prop :=
 match resA (Dof P) rs env σ with
 | some l=>Q (tupA l) σ
 | none=>False
def acPost (P:Program) (rs:List ResultVar) (Q:AV→St→Prop):Exit→Env→St→Prop
 | .ret,env,σ=>acEnd P rs Q env σ
 | .normal,env,σ=>acEnd P rs Q env σ
 | _,_,_=>False
attribute [simp] acEnd acPost
section
variable {P:Program} {G:Nat→AV} {σ:St} {f:FuncId} {args:List AV} {Q:AV→St→Prop}
theorem ACall.vcO {fn : Func} {c : Code} (o : Opts) (hm : P.follows .mixedOrders = true) (hf : P.funcs[f]? = some fn) (hb : fn.body = some c) (hk : (codeOk fn.ntmps o c && decide (args.length ≤ fn.ntmps) && fn.name != "runtime.NumGoroutine") = true)
 (h:vcC P G o c (envOf args) σ (acPost P fn.results.toList Q)):ACall P G f args σ Q:=by
 simp only [Bool.and_eq_true,decide_eq_true_eq,bne_iff_ne,ne_eq] at hk
 refine ACall.of_body hf hb hk.2 hk.1.2 (AWp.mono (vcC_sound hm c hk.1.1 h) fun e env σ hq=>?_)
 have key:acEnd P fn.results.toList Q env σ→∃ l,resA (Dof P) fn.results.toList env σ=some l∧Q (tupA l) σ:=fun h=>by
  unfold acEnd at h
  split at h
  · rename_i l hl
    exact⟨l,hl,h⟩
  · exact h.elim
 cases e with
 | ret=>exact⟨.inl rfl,key hq⟩
 | normal=>exact⟨.inr rfl,key hq⟩
 | _=>exact hq.elim
theorem ACall.vc {fn : Func} {c : Code} (hm : P.follows .mixedOrders = true) (hf : P.funcs[f]? = some fn) (hb : fn.body = some c) (hk : (codeOk fn.ntmps o0 c && decide (args.length ≤ fn.ntmps) && fn.name != "runtime.NumGoroutine") = true)
 (h:vcC P G o0 c (envOf args) σ (acPost P fn.results.toList Q)):ACall P G f args σ Q:=ACall.vcO o0 hm hf hb hk h
end
end Go.Abs
namespace Go.Proofs.YtpgcmnabljandaaGreatDoor
open Go Go.Abs
def runW {S:Type} (stp:S→Ex→S×Bool):S→List Ex→S×Bool
 | s,[]=>(s,true)
 | s,e::r=>if (stp s e).2=true then runW stp (stp s e).1 r else ((stp s e).1,false)
theorem runW_append {S:Type} {stp:S→Ex→S×Bool}:∀ {s:S} {l m:List Ex},runW stp s (l++m)=if (runW stp s l).2=true then runW stp (runW stp s l).1 m else runW stp s l
 | s,[],m=>by simp [runW]
 | s,e::r,m=>by
  simp only [List.cons_append,runW]
  split
  · exact runW_append
  · simp
theorem runW_true {S:Type} {stp:S→Ex→S×Bool} (h:∀ s e,(stp s e).2=true):∀ (s:S) (l:List Ex),runW stp s l=(l.foldl (fun s e=>(stp s e).1) s,true)
 | s,[]=>rfl
 | s,e::r=>by simp only [runW,h,if_true,List.foldl_cons];exact runW_true h _ r
theorem runW_first {f:Ex→Int}:∀ (s:Int) (l:List Ex),(runW (fun _ e=>(f e,f e==0)) s l).1=if l=[] then s else firstE f l
 | s,[]=>rfl
 | s,e::r=>by
  simp only [runW,firstE,beq_iff_eq,reduceCtorEq,if_false]
  by_cases h:f e=0
  · rw [if_pos h,if_pos h,runW_first]
    split
    · rename_i hr;subst hr;simp [firstE,h]
    · rfl
  · rw [if_neg h,if_neg h]
theorem wrap_add {m n:Int}:IntKind.i64.wrap (IntKind.i64.wrap m+n)=IntKind.i64.wrap (m+n):=by
 simp [IntKind.wrap,IntKind.bits,IntKind.signed]
 omega
theorem fold_count {n:Int}:∀ (l:List Ex),l.foldl (fun s _=>IntKind.i64.wrap (s+1)) (IntKind.i64.wrap n)=IntKind.i64.wrap (n+l.length)
 | []=>by simp
 | e::r=>by
  rw [List.foldl_cons,wrap_add,fold_count r]
  congr 1
  simp;omega
theorem groups_empty {l:List Var} {g:List (List Int)} (h : []∈g):¬ GroupsOk l g:=fun ⟨h1,_⟩=>h1 _ h rfl
theorem groups_bad {l:List Var} {g:List (List Int)} {i:Int} (h:i∈g.flatten) (hr:rndS l i=false):¬ GroupsOk l g:=fun ⟨_,h2,_⟩=>by
 have:=h2 i h
 rw [hr] at this;cases this
theorem groups_dup {l:List Var} {g:List (List Int)} {i:Int} {done rest:List Int} (h:g.flatten=done++i::rest) (hi:i∈done):¬ GroupsOk l g:=fun ⟨_,_,h3,_⟩=>by
 rw [h,List.nodup_append] at h3
 exact h3.2.2 i hi i (by simp) rfl
theorem groups_left {l:List Var} {g:List (List Int)} {i:Nat} (hi:i<l.length) (hr:rndS l i=true) (h:(i:Int)∉g.flatten):¬ GroupsOk l g:=fun ⟨_,_,_,h4⟩=>h (h4 i hi hr)
theorem rndS_range {l:List Var} {i:Int} (h:rndS l i=true):0≤i∧i<l.length:=by
 simp only [rndS,Bool.and_eq_true,decide_eq_true_eq] at h
 obtain⟨h0,h1⟩:=h
 refine⟨h0,?_⟩
 apply Classical.byContradiction
 intro hn
 rw [List.getElem?_eq_none (by omega)] at h1
 simp at h1
end Go.Proofs.YtpgcmnabljandaaGreatDoor
namespace Go.Proofs.YtpgcmnabljandaaGreatDoor
open Go Go.Abs
mutual
def nodesS:Ex→Int→Int
 | .mk _ _ _ a,d=>nodesL a d 1
def nodesL:List Ex→Int→Int→Int
 | [],_,n=>n
 | x::r,d,n=>if n<100∧d<30 then nodesL r d (IntKind.i64.wrap (n+nodesS x (IntKind.i64.wrap (d+1)))) else n
end
theorem nodesS_eq (e:Ex) (d:Int):nodesS e d=nodesL e.args d 1:=by cases e;simp [nodesS]
@[simp] theorem nodesL_nil {d n:Int}:nodesL [] d n=n:=by simp [nodesL]
@[simp] theorem nodesL_cons {x:Ex} {r:List Ex} {d n:Int}:nodesL (x::r) d n=if n<100∧d<30 then nodesL r d (IntKind.i64.wrap (n+nodesS x (IntKind.i64.wrap (d+1)))) else n:=by simp [nodesL]
mutual
def briefS:Ex→Nat→Bool
 | .mk o n s a,d=>if 25<d∨(d=0∧60<nodesS (.mk o n s a) 0) then false else briefL a (d+1)
def briefL:List Ex→Nat→Bool
 | [],_=>true
 | x::r,d=>briefS x d&&briefL r d
end
theorem briefS_eq (e:Ex) (d:Nat):briefS e d=if 25<d∨(d=0∧60<nodesS e 0) then false else briefL e.args (d+1):=by cases e;simp [briefS]
@[simp] theorem briefL_nil {d:Nat}:briefL [] d=true:=by simp [briefL]
@[simp] theorem briefL_cons {x:Ex} {r:List Ex} {d:Nat}:briefL (x::r) d=(briefS x d&&briefL r d):=by simp [briefL]
theorem briefL_all {l:List Ex} {d:Nat}:briefL l d=l.all fun x=>briefS x d:=by
 induction l with
 | nil=>simp
 | cons x r ih=>simp [ih]
theorem brief_hgt:∀ (e:Ex) (d:Nat),briefS e d=true→hgt e+d≤26:=by
 refine Ex.ind fun e ih d h=>?_
 rw [briefS_eq] at h
 split at h
 · cases h
 · rename_i hd
   rw [hgt_eq]
   have:∀ (l:List Ex),(∀ x∈l,briefS x (d+1)=true)→(∀ x∈l,x∈e.args)→hgtL l+(d+1)≤26:=by
    intro l
    induction l with
    | nil=>intro _ _;simp;omega
    | cons x r ihl=>
     intro h1 h2
     have a1:=ih x (h2 x (by simp)) (d+1) (h1 x (by simp))
     have a2:=ihl (fun y hy=>h1 y (by simp [hy])) (fun y hy=>h2 y (by simp [hy]))
     simp;omega
   rw [briefL_all,List.all_eq_true] at h
   have:=this e.args h (fun _ h=>h)
   omega
end Go.Proofs.YtpgcmnabljandaaGreatDoor
end
