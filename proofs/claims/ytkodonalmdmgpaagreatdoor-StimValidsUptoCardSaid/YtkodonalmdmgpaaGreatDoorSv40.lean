import Derived.Test.YtkodonalmdmgpaaGreatDoorSv25
set_option linter.all false
set_option linter.defProp false
section
namespace Go.Proofs.YtkodonalmdmgpaaGreatDoor
open Go Go.Abs
/-- Blocks that stay, all but some. -/
def KpL (bs:List Nat) (H H':List Blk):Prop:=H.length≤H'.length∧∀ (k:Nat) (x:Blk),H[k]?=some x→k∉bs→H'[k]?=some x
theorem KpL.refl {bs:List Nat} {H:List Blk}:KpL bs H H:=⟨Nat.le_refl _,fun _ _ h _=>h⟩
theorem KpL.trans {bs:List Nat} {H H' H'':List Blk} (h:KpL bs H H') (h':KpL bs H' H''):KpL bs H H'':=⟨Nat.le_trans h.1 h'.1,fun k x hk h1=>h'.2 k x (h.2 k x hk h1) h1⟩
theorem KpL.app {bs:List Nat} {H t:List Blk}:KpL bs H (H++t):=⟨by simp,fun k x hk _=>look_app hk t⟩
theorem KpL.set {bs:List Nat} {H:List Blk} {b:Nat} {y:Blk} (hb:b∈bs):KpL bs H (H.set b y):=⟨by simp,fun k x hk hn=>by
 rw [List.getElem?_set_ne (by rintro rfl;exact hn hb)];exact hk⟩
theorem KpL.sub {bs cs:List Nat} {H H':List Blk} (h:KpL bs H H') (hs:∀ b∈bs,b∈cs):KpL cs H H':=⟨h.1,fun k x hk hn=>h.2 k x hk fun hb=>hn (hs k hb)⟩
theorem KpL.setF {bs:List Nat} {H H':List Blk} {b:Nat} {y:Blk} (h:KpL bs H H') (hb:H.length≤b):KpL bs H (H'.set b y):=⟨by rw [List.length_set];exact h.1,fun k x hk hn=>by
 have:=(List.getElem?_eq_some_iff.1 hk).1
 rw [List.getElem?_set_ne (by omega)];exact h.2 k x hk hn⟩
end Go.Proofs.YtkodonalmdmgpaaGreatDoor
end
