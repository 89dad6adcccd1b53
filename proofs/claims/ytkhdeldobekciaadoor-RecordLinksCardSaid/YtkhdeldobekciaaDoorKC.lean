/- What functions of this seat compute, in plain Lean. -/
import Derived.Test.YtkhdeldobekciaaDoorKB
set_option linter.unusedVariables false
set_option linter.unusedSimpArgs false
set_option maxRecDepth 100000
set_option maxRecDepth 100000
set_option linter.unusedVariables false
set_option linter.unusedSimpArgs false
set_option linter.unusedVariables false
set_option maxRecDepth 100000
namespace Go.Proofs.YtkhdeldobekciaaDoor
open Go.Vc
open Go.Vc.T
theorem xE : ∀ (l : List Int) (c : Int), (aH l c >= 0) ↔ c ∈ l
 | [], c => by simp [aH]
 | x :: l, c => by
   have ih := xE l c
   have hb := lM l c
   unfold aH; rw [List.mem_cons]
   by_cases hx : x = c
   ·simp [hx]
   ·rw [if_neg hx]
    by_cases hi : aH l c = -1
    ·rw [if_pos hi]
     constructor
     ·intro h; omega
     ·rintro (h | h)
      ·exact absurd h.symm hx
      ·have := ih.2 h; omega
    ·rw [if_neg hi]
     constructor
     ·intro _; exact .inr (ih.1 (by omega))
     ·intro _; omega
end Go.Proofs.YtkhdeldobekciaaDoor
set_option linter.unusedSimpArgs false
set_option maxRecDepth 100000
set_option linter.unusedVariables false
