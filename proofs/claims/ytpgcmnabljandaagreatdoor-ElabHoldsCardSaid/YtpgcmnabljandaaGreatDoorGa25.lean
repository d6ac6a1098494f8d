/- A part of the proof: Works2 Works3. -/
import Derived.Test.YtpgcmnabljandaaGreatDoorGa17
import Derived.Test.YtpgcmnabljandaaGreatDoorGa15
set_option linter.unusedVariables false
set_option maxRecDepth 1000000
set_option linter.unusedSimpArgs false
section
namespace Go.Proofs.YtpgcmnabljandaaGreatDoor
open Go Go.Abs
def itemsA:AV:=.sl 12 [[.int .i64 1,.int .i64 17,.int .i64 0,.str [],.sl 4 [[.int .i64 2,.int .i64 0,.str [97],.sl 0 [] .nil],[.int .i64 2,.int .i64 0,.str [98],.sl 0 [] .nil]] .none,.str [],.str [],.sl 0 [] .nil,.sl 0 [] .nil,.sl 0 [] .nil,.sl 0 [] .nil,.sl 0 [] .nil],[.int .i64 6,.int .i64 0,.int .i64 0,.str [],.sl 0 [] .nil,.str [],.str [],.sl 0 [] .nil,.sl 0 [] .nil,.sl 0 [] .nil,.sl 1 [[.str [97]]] .none,.sl 1 [[.str [98]]] .none]] .none
def moreA:AV:=.sl 12 [[.int .i64 2,.int .i64 15,.int .i64 0,.str [],.sl 4 [[.int .i64 2,.int .i64 0,.str [98],.sl 0 [] .nil],[.int .i64 1,.int .i64 3,.str [],.sl 0 [] .nil]] .tight,.str [],.str [],.sl 0 [] .nil,.sl 0 [] .nil,.sl 0 [] .nil,.sl 0 [] .nil,.sl 0 [] .nil]] .none
def hardA:AV:=.agg [.int .i64 17,.int .i64 0,.str [],.sl 4 [[.int .i64 2,.int .i64 0,.str [97],.sl 0 [] .nil],[.int .i64 2,.int .i64 0,.str [98],.sl 0 [] .nil]] .none]
def softA:AV:=.agg [.int .i64 15,.int .i64 0,.str [],.sl 4 [[.int .i64 2,.int .i64 0,.str [98],.sl 0 [] .nil],[.int .i64 1,.int .i64 3,.str [],.sl 0 [] .nil]] .none]
def r48a:AV:=.tup [.sl 12 [[.int .i64 1,.int .i64 17,.int .i64 0,.str [],.sl 4 [[.int .i64 2,.int .i64 0,.str [97],.sl 0 [] .nil],[.int .i64 2,.int .i64 0,.str [98],.sl 0 [] .nil]] .none,.str [],.str [],.sl 0 [] .nil,.sl 0 [] .nil,.sl 0 [] .nil,.sl 0 [] .nil,.sl 0 [] .nil],[.int .i64 6,.int .i64 0,.int .i64 0,.str [],.sl 0 [] .nil,.str [],.str [],.sl 0 [] .nil,.sl 0 [] .nil,.sl 0 [] .nil,.sl 1 [[.str [97]]] .none,.sl 1 [[.str [98]]] .none]] .none,.int .i64 0]
def r48b:AV:=.tup [.sl 12 [[.int .i64 2,.int .i64 15,.int .i64 0,.str [],.sl 4 [[.int .i64 2,.int .i64 0,.str [98],.sl 0 [] .nil],[.int .i64 1,.int .i64 3,.str [],.sl 0 [] .nil]] .none,.str [],.str [],.sl 0 [] .nil,.sl 0 [] .nil,.sl 0 [] .nil,.sl 0 [] .nil,.sl 0 [] .nil]] .none,.int .i64 0]
def r116a:AV:=.tup [.agg [.int .i64 17,.int .i64 0,.str [],.sl 4 [[.int .i64 2,.int .i64 0,.str [97],.sl 0 [] .nil],[.int .i64 2,.int .i64 0,.str [98],.sl 0 [] .nil]] .none],.int .i64 0]
def r116b:AV:=.tup [.agg [.int .i64 15,.int .i64 0,.str [],.sl 4 [[.int .i64 2,.int .i64 0,.str [98],.sl 0 [] .nil],[.int .i64 1,.int .i64 3,.str [],.sl 0 [] .nil]] .none],.int .i64 0]
def srcA:AV:=.sl 4 [[.str [112,97,105,114],.str [],.sl 5 [[.str [97],.int .i64 2,.int .i64 0,.int .i64 1,.int .i64 0],[.str [98],.int .i64 2,.int .i64 0,.int .i64 1,.int .i64 0]] .tight,.sl 2 [[.str [99],.sl 12 [[.int .i64 1,.int .i64 17,.int .i64 0,.str [],.sl 4 [[.int .i64 2,.int .i64 0,.str [97],.sl 0 [] .nil],[.int .i64 2,.int .i64 0,.str [98],.sl 0 [] .nil]] .tight,.str [],.str [],.sl 0 [] .nil,.sl 0 [] .nil,.sl 0 [] .nil,.sl 0 [] .nil,.sl 0 [] .nil],[.int .i64 6,.int .i64 0,.int .i64 0,.str [],.sl 0 [] .nil,.str [],.str [],.sl 0 [] .nil,.sl 0 [] .nil,.sl 0 [] .nil,.sl 1 [[.str [97]]] .tight,.sl 1 [[.str [98]]] .tight]] .tight]] .tight]] .tight
def flatA:AV:=.agg [.str [112,97,105,114],.str [],.sl 5 [[.str [97],.int .i64 2,.int .i64 0,.int .i64 1,.int .i64 0],[.str [98],.int .i64 2,.int .i64 0,.int .i64 1,.int .i64 0]] .none,.sl 2 [[.str [99],.sl 12 [[.int .i64 1,.int .i64 17,.int .i64 0,.str [],.sl 4 [[.int .i64 2,.int .i64 0,.str [97],.sl 0 [] .nil],[.int .i64 2,.int .i64 0,.str [98],.sl 0 [] .nil]] .none,.str [],.str [],.sl 0 [] .nil,.sl 0 [] .nil,.sl 0 [] .nil,.sl 0 [] .nil,.sl 0 [] .nil],[.int .i64 6,.int .i64 0,.int .i64 0,.str [],.sl 0 [] .nil,.str [],.str [],.sl 0 [] .nil,.sl 0 [] .nil,.sl 0 [] .nil,.sl 1 [[.str [97]]] .none,.sl 1 [[.str [98]]] .none]] .none]] .none]
def r13:AV:=.tup [.agg [.str [112,97,105,114],.str [],.sl 5 [[.str [97],.int .i64 2,.int .i64 0,.int .i64 1,.int .i64 0],[.str [98],.int .i64 2,.int .i64 0,.int .i64 1,.int .i64 0]] .none,.sl 2 [[.str [99],.sl 12 [[.int .i64 1,.int .i64 17,.int .i64 0,.str [],.sl 4 [[.int .i64 2,.int .i64 0,.str [97],.sl 0 [] .nil],[.int .i64 2,.int .i64 0,.str [98],.sl 0 [] .nil]] .none,.str [],.str [],.sl 0 [] .nil,.sl 0 [] .nil,.sl 0 [] .nil,.sl 0 [] .nil,.sl 0 [] .nil],[.int .i64 6,.int .i64 0,.int .i64 0,.str [],.sl 0 [] .nil,.str [],.str [],.sl 0 [] .nil,.sl 0 [] .nil,.sl 0 [] .nil,.sl 1 [[.str [97]]] .none,.sl 1 [[.str [98]]] .none]] .none]] .none],.int .i64 0]
def r45:AV:=.sl 4 [[.str [97],.int .i64 2,.int .i64 1,.int .i64 0],[.str [98],.int .i64 2,.int .i64 1,.int .i64 0]] .none
def leqT (a b:AV):Bool:=match a,b with
 | .tup c,.tup d=>leqL c d
 | a,b=>leqB a b
theorem leqT_spec {a b:AV} (h:leqT a b=true):Leq a b:=by
 unfold leqT at h
 split at h
 · simp only [Leq];exact leqL_spec _ _ h
 · exact leqB_spec _ _ h
noncomputable def closedX (K:FuncId→Bool) (X:FuncId→List AV→Option AV) (m n:Nat) (g:FuncId) (args:List AV) (r:AV):Bool:=match FG1 g with
 | some b=>Nat.ble args.length b.n&&(match outX DD GG FG1 C1 K X m n b args with
  | some r'=>leqT r' r
  | none=>false)
 | none=>false
theorem Pure.closedX {K:FuncId→Bool} {X:FuncId→List AV→Option AV} (hX:ConX Tryz.prog GG X) (m n:Nat) {g:FuncId} {args:List AV} {r:AV} (h:closedX K X m n g args r=true):Pure Tryz.prog GG g args r:=by
 unfold Go.Proofs.YtpgcmnabljandaaGreatDoor.closedX at h
 split at h
 · rename_i b hb
   simp only [Bool.and_eq_true] at h
   obtain⟨h1,h2⟩:=h
   split at h2
   · rename_i r' hr
     exact (Pure.outX mixed DD_eq FG1_ok C1_ok hX hb (Nat.le_of_ble_eq_true h1) hr).sub (LeqL.refl _) (leqT_spec h2)
   · cases h2
 · cases h
def K0 (_:FuncId):Bool:=false
def X0 (_:FuncId) (_:List AV):Option AV:=none
theorem X0_ok:ConX Tryz.prog GG X0:=fun _ _ _ h=>by cases h
def badP:Problem:=⟨[],[],[],[],[[0]]⟩
theorem valid14b:Pure Tryz.prog GG 14 [.agg (encP badP)] (.int .i64 1):=Pure.closedX (K:=K0) X0_ok 1000 40 (by kernel_rfl)
theorem flat13:Pure Tryz.prog GG 13 [srcA,.str [112,97,105,114]] r13:=Pure.closedX (K:=K0) X0_ok 1000 40 (by kernel_rfl)
theorem vars45:Pure Tryz.prog GG 45 [flatA] r45:=Pure.closedX (K:=K0) X0_ok 1000 40 (by kernel_rfl)
theorem expand48a:Pure Tryz.prog GG 48 [itemsA,flatA] r48a:=Pure.closedX (K:=K0) X0_ok 1000 40 (by kernel_rfl)
theorem expand48b:Pure Tryz.prog GG 48 [moreA,flatA] r48b:=Pure.closedX (K:=K0) X0_ok 1000 40 (by kernel_rfl)
theorem scalar116a:Pure Tryz.prog GG 116 [hardA,flatA] r116a:=Pure.closedX (K:=K0) X0_ok 1000 40 (by kernel_rfl)
theorem scalar116b:Pure Tryz.prog GG 116 [softA,flatA] r116b:=Pure.closedX (K:=K0) X0_ok 1000 40 (by kernel_rfl)
def K3 (g:FuncId):Bool:=Nat.beq g 13||(Nat.beq g 45||(Nat.beq g 48||(Nat.beq g 116||Nat.beq g 14)))
def X3 (g:FuncId) (args:List AV):Option AV :=
 pickB (Nat.beq g 13&&leqL args [srcA,.str [112,97,105,114]]) (some r13) <|
 pickB (Nat.beq g 45&&leqL args [flatA]) (some r45) <|
 pickB (Nat.beq g 48&&leqL args [itemsA,flatA]) (some r48a) <|
 pickB (Nat.beq g 48&&leqL args [moreA,flatA]) (some r48b) <|
 pickB (Nat.beq g 116&&leqL args [hardA,flatA]) (some r116a) <|
 pickB (Nat.beq g 116&&leqL args [softA,flatA]) (some r116b) <|
 pickB (Nat.beq g 14&&leqL args [.agg (encP pairP)]) (some (.int .i64 0)) <|
 pickB (Nat.beq g 14&&leqL args [.agg (encP badP)]) (some (.int .i64 1)) <|
 none
theorem X3_ok:ConX Tryz.prog GG X3:=by
 intro g args r h
 have step:∀ {b:FuncId} {a:List AV} {s:AV} {k:Option AV},Pure Tryz.prog GG b a s→pickB (Nat.beq g b&&leqL args a) (some s) k=some r→Pure Tryz.prog GG g args r∨k=some r:=by
  intro b a s k hp hk
  cases hb:(Nat.beq g b&&leqL args a)
  · rw [hb] at hk;exact .inr hk
  · rw [hb] at hk
    simp only [Bool.and_eq_true] at hb
    cases hk
    rw [Nat.eq_of_beq_eq_true hb.1]
    exact .inl (hp.less (leqL_spec _ _ hb.2))
 unfold X3 at h
 rcases step flat13 h with h|h
 · exact h
 rcases step vars45 h with h|h
 · exact h
 rcases step expand48a h with h|h
 · exact h
 rcases step expand48b h with h|h
 · exact h
 rcases step scalar116a h with h|h
 · exact h
 rcases step scalar116b h with h|h
 · exact h
 rcases step valid14 h with h|h
 · exact h
 rcases step valid14b h with h|h
 · exact h
 cases h
theorem works11:Pure Tryz.prog GG 11 [] (.bool true):=Pure.closedX (K:=K3) X3_ok 1000 40 (by kernel_rfl)
end Go.Proofs.YtpgcmnabljandaaGreatDoor
end
