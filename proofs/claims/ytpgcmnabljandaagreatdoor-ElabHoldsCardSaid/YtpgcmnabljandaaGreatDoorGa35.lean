/- A part of the proof: Walk41. -/
import Derived.Test.YtpgcmnabljandaaGreatDoorGa17
import Derived.Test.YtpgcmnabljandaaGreatDoorGa32
import Derived.Test.YtpgcmnabljandaaGreatDoorGa33
set_option linter.unusedVariables false
set_option linter.unusedSimpArgs false
set_option maxRecDepth 100000
section
namespace Go.Proofs.YtpgcmnabljandaaGreatDoor
open Go Go.Abs
theorem name_le {e:Ex} (hn:NodesOk e):e.name.length≤1000:=by
 obtain⟨_,_,_,_,_,h2,h3,h4⟩:=nodeE_zero hn.self
 by_cases c2:e.op=2
 · have:=h2 c2
   unfold varS at this
   rw [Bool.or_eq_true] at this
   rcases this with h|h
   · have:=name_len h;omega
   · cases he:elemO e.name with
     | none=>rw [he] at h;cases h
     | some p=>
      have hi:=elemO_some.1 (show elemO e.name=some (p.1,p.2) from he)
      have:=name_len hi.2.1
      rw [hi.2.2];simp;omega
 · by_cases c3:e.op=3∨e.op=24
   · have:=name_len (h3 c3);omega
   · rw [h4 (by omega)];simp
end Go.Proofs.YtpgcmnabljandaaGreatDoor
end
