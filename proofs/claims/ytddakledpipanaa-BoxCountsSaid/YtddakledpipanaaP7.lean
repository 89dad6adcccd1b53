/- What is owed of the laws BoxAdds, BoxStores, BoxAsks, proved in plain Lean. -/
import Derived.Test.YtddakledpipanaaP6
import Derived.Test.YtddakledpipanaaV3
set_option linter.unusedSimpArgs false
set_option linter.unusedVariables false
set_option maxRecDepth 100000
namespace Go.Proofs.Ytddakledpipanaa
open Go.Vc
open Go.Vc.T
theorem reach_eq : reachBytes = 140737488351232 := rfl
theorem great_go : ∀ (l : List Msg) (n : Int), (∀ m ∈ l, m.2.2.2.length ≤ 140737488351232) → 0 ≤ n → U.greatGo l n ≤ 5000 → n ≤ 5000 ∧ ∀ m ∈ l, m.2.2.2.length ≤ 5000
  | [], n, _, _, h => ⟨h, fun m hm => by cases hm⟩
  | m :: r, n, hs, h0, h => by
    have hm := hs m (by simp)
    by_cases hn : n ≤ 5000
    · have e : U.greatGo (m :: r) n = U.greatGo r (n + m.2.2.2.length) := by
        rw [greatGo_cons, decide_eq_true hn, cond_true, wrap_i (by omega) (by omega)]
      rw [e] at h
      obtain ⟨h1, h2⟩ := great_go r _ (fun x hx => hs x (by simp [hx])) (by omega) h
      refine ⟨hn, fun x hx => ?_⟩
      rcases List.mem_cons.1 hx with rfl | hx
      · omega
      · exact h2 x hx
    · rw [greatGo_cons, decide_eq_false hn, cond_false] at h
      exact absurd h hn
theorem great_small {b : Box} (hs : Short tBox b) (h : U.great b = false) : U.small b.2.2.2 := by
  obtain ⟨_, _, _, hs, _⟩ := hs
  have hs : ∀ m ∈ b.2.2.2, m.2.2.2.length ≤ 140737488351232 := fun m hm => (hs m hm).2.2.2.2
  unfold U.great at h
  obtain ⟨h1, h2⟩ := great_go b.2.2.2 (b.2.2.2.length : Int) hs (by omega) (by simpa using h)
  exact ⟨by omega, h2⟩
theorem eqBox_self (b : Box) : U.eqBox b b = true := (eqBox_iff b b).2 rfl
theorem eqM_self (m : Msg) : U.eqM m m = true := (eqM_iff m m).2 rfl
theorem eqMs_self (m : List Msg) : U.eqMs m m = true := (eqMs_iff m m).2 rfl
theorem eqI_self (m : List Int) : U.eqI m m = true := (eqI_iff m m).2 rfl
theorem ok3 (b : Box) (m : Msg) (hs : Short tBox b) : vc3 b m := by
  unfold vc3
  simp only [cond_prop, cond_or, cond_and, eqBox_self]
  refine ⟨fun _ => by simp, fun h => ⟨great_small hs (by grind), by simp⟩⟩
theorem ok6 (b : Box) (l : List Int) (w : List Int) (hs : Short tBox b) : vc6 b l w := by
  unfold vc6
  simp only [cond_prop, cond_or, cond_and, eqBox_self, eqMs_self]
  refine ⟨fun _ => by simp, fun h => ⟨great_small hs (by grind), by simp⟩⟩
theorem ok8 (a b : Box) (w : List Int) (hs : Short tBox a) : vc8 a b w := by
  unfold vc8
  simp only [cond_prop, cond_or, cond_and, eqBox_self, eqMs_self, eqM_self, eqI_self]
  refine ⟨fun _ => by simp, fun h => ?_⟩
  have h1 := great_small hs (by grind)
  have h2 := h1.1
  simp [h1, h2]
end Go.Proofs.Ytddakledpipanaa
