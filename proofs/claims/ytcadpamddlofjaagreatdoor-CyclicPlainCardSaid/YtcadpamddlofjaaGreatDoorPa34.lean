/- A part of the proof. -/
set_option linter.unusedVariables false
set_option linter.unusedSimpArgs false
set_option linter.defProp false
section
namespace Go.Abs
section
section
variable {α β:Type}
end
section
variable {α:Type}
end
def lim:Nat:=1099511627777
def sat (n:Nat):Nat:=min n lim
theorem qc4 (n:Nat):sat n<=lim:=Nat.min_le_right _ _
end
end Go.Abs
end
