/- Operators, conversions, cuts, lengths. -/
import Derived.Test.YtddakledpipanaaVcOp3
set_option linter.unusedVariables false
set_option linter.unusedSimpArgs false
namespace Go.Vc

section
variable {P : Program} {c : Ctx} {ι : Gh} {w : World} {M : Store} {act : Act} {o : Oper} {cfg : Cfg}

theorem fdiv_valid {k : IntKind} {a : Int} (h : Valid (.int k) a) (n : Nat) : Valid (.int k) (a.fdiv (2 ^ n)) := by
  have hp : (0 : Int) < 2 ^ n := Int.pow_pos (by decide)
  have h0 : k.min ≤ a := h.1
  have h1 : a ≤ k.max := h.2
  have hz := kind_zero k
  show k.min ≤ _ ∧ _ ≤ k.max
  rw [Int.fdiv_eq_ediv_of_nonneg _ (Int.le_of_lt hp)]
  generalize (2 : Int) ^ n = q at hp
  by_cases ha : 0 ≤ a
  · have h2 : a / q ≤ a := Int.ediv_le_self _ ha
    have h3 : 0 ≤ a / q := Int.ediv_nonneg ha (Int.le_of_lt hp)
    omega
  · have h2 : a / q < 0 := Int.ediv_neg_of_neg_of_pos (by omega) hp
    have h3 : a ≤ a / q := by
      rw [Int.le_ediv_iff_mul_le hp]
      have h4 : (-a) * 1 ≤ (-a) * q := Int.mul_le_mul_of_nonneg_left (by omega) (by omega)
      rw [Int.neg_mul, Int.neg_mul] at h4
      omega
    omega
theorem tmod_valid {k : IntKind} {a b : Int} (h : Valid (.int k) a) : Valid (.int k) (a.tmod b) := by
  have h0 : k.min ≤ a := h.1
  have h1 : a ≤ k.max := h.2
  have hz := kind_zero k
  show k.min ≤ _ ∧ _ ≤ k.max
  have hm : (a.tmod b).natAbs ≤ a.natAbs := by rw [Int.natAbs_tmod]; exact Nat.mod_le _ _
  by_cases ha : 0 ≤ a
  · have h2 := Int.tmod_nonneg b ha
    omega
  · have e : a.tmod b = -((-a).tmod b) := by rw [Int.neg_tmod]; omega
    have h2 := Int.tmod_nonneg b (show 0 ≤ -a by omega)
    omega

theorem isBoolT_ok (tab : TabOk P cfg) {T : Nat} (h : isBoolT cfg T = true) : P.underlying T = some .bool := by
  unfold isBoolT at h
  split at h
  · rename_i hT
    obtain ⟨d, i, hd, _, _, _, h3, _⟩ := (tab T _ hT).ex
    rw [hd, show d = _ from h3]
  · cases h

theorem eqGuard_int (op : BinOp) (T : Nat) (x y : Operand) (k k' : IntKind) (a b : Int) : (eqGuard op T x y (.int k a) (.int k' b)).run P w = .ok () w := by
  cases op <;> rfl
theorem eqGuard_str (op : BinOp) (T : Nat) (x y : Operand) (a b : ByteArray) : (eqGuard op T x y (.string a) (.string b)).run P w = .ok () w := by
  cases op <;> rfl
theorem eqGuard_bool (op : BinOp) (T : Nat) (x y : Operand) (a b : Bool) : (eqGuard op T x y (.bool a) (.bool b)).run P w = .ok () w := by
  cases op <;> rfl

theorem evBin_sound (tab : TabOk P cfg) (I : Inv c ι w M) {op : BinOp} {T T' : Nat} {x y : Operand} (ho : o.op = .binOp op T x y T') {l m r : Leaf} (hx : LRep c ι w M l [act.eval x])
    (hy : LRep c ι w M m [act.eval y]) {ps : List Prop} (he : evBin cfg T op l m = some (ps, r)) (hp : ∀ p ∈ ps, p) : OpWp P c ι w M act o (.one r) [] := by
  have fin : ∀ {v : Value}, (eqGuard op T x y (act.eval x) (act.eval y)).run P w = .ok () w → (binOp op T (act.eval x) (act.eval y)).run P w = .ok v w → LRep c ι w M r [v] → OpWp P c ι w M act o (.one r) [] :=
    fun hg hr hv => OpWp.pure I (exec_bin ho hg hr) (SVRep.one hv)
  unfold evBin at he
  split at he
  · rename_i k a k' b
    have e1 : act.eval x = .int k a := by simpa using hx.1
    have e2 : act.eval y = .int k' b := by simpa using hy.1
    rw [e1, e2] at fin
    have fin' := @fin
    clear fin
    split at he
    · cases he
      have hb := hp (0 ≤ b) (by simp)
      refine fin' (eqGuard_int ..) (v := .int k (k.wrap (a * 2 ^ (min b.toNat k.bits)))) ?_ ⟨rfl, wrap_valid _ _⟩
      simp [binOp, Op.shift, show ¬ b < 0 by omega]
    · cases he
      have hb := hp (0 ≤ b) (by simp)
      refine fin' (eqGuard_int ..) (v := .int k (a.fdiv (2 ^ (min b.toNat k.bits)))) ?_ ⟨rfl, fdiv_valid hx.2 _⟩
      simp [binOp, Op.shift, show ¬ b < 0 by omega]
    · split at he
      · rename_i hk
        subst hk
        split at he <;> first
          | (cases he
             refine fin' (eqGuard_int ..) (v := .int k' _) ?_ ⟨rfl, wrap_valid _ _⟩
             first
               | (simp [binOp, Op.intArith]; done)
               | (simp [binOp, Op.intBits]; done)
               | (have hb := hp (b ≠ 0) (by simp); simp [binOp, Op.intDiv, hb]; done))
          | (cases he
             have hb := hp (b ≠ 0) (by simp)
             refine fin' (eqGuard_int ..) (v := .int k' (a.tmod b)) ?_ ⟨rfl, tmod_valid hx.2⟩
             simp [binOp, Op.intDiv, hb])
          | (cases he
             refine fin' (eqGuard_int ..) (v := .bool _) ?_ rfl
             simp [binOp, Op.intCmp])
          | cases he
      · cases he
  · rename_i a b
    have e1 : act.eval x = .string (bs a) := by simpa using hx.1
    have e2 : act.eval y = .string (bs b) := by simpa using hy.1
    rw [e1, e2] at fin
    have fin' := @fin
    clear fin
    have ha := hx.2
    have hb := hy.2
    split at he <;> first
      | (cases he
         have hsum := hp (a.length + b.length ≤ 9223372036854775807) (by simp)
         refine fin' (eqGuard_str ..) (v := .string (bs a ++ bs b)) ?_ ⟨by rw [bs_append], fun z hz => ?_, by simp only [List.length_append, maxLen]; omega⟩
         · rw [binOp_string_add]; exact run_string_add_sum w _ _ (by rw [bs_size, bs_size]; exact hsum)
         · rcases List.mem_append.1 hz with h | h
           · exact ha.1 z h
           · exact hb.1 z h)
      | (cases he
         refine fin' (eqGuard_str ..) (v := .bool _) ?_ rfl
         simp [binOp, Op.stringOp, bs_eql ha.1 hb.1, bs_lt ha.1 hb.1])
      | cases he
  · rename_i l' m' h1 h2
    split at he
    · rename_i a b ha hb
      have e1 := asB_rep ha hx
      have e2 := asB_rep hb hy
      rw [e1, e2] at fin
      have fin' := @fin
      clear fin
      split at he
      · cases hT : isBoolT cfg T with
        | false => rw [hT] at he; cases he
        | true =>
          rw [hT] at he; cases he
          exact fin' (eqGuard_bool ..) (run_eql_bool w T a b (isBoolT_ok tab hT)) rfl
      · cases hT : isBoolT cfg T with
        | false => rw [hT] at he; cases he
        | true =>
          rw [hT] at he; cases he
          exact fin' (eqGuard_bool ..) (run_neq_bool w T a b (isBoolT_ok tab hT)) rfl
      · cases he
    · cases he

theorem evUn_sound (I : Inv c ι w M) {op : UnOp} {T : Nat} {x : Operand} (ho : o.op = .unOp op T x) {l r : Leaf} (hx : LRep c ι w M l [act.eval x])
    (he : evUn op l = some r) : OpWp P c ι w M act o (.one r) [] := by
  unfold evUn at he
  split at he
  · rename_i k a
    cases he
    have e1 : act.eval x = .int k a := by simpa using hx.1
    exact OpWp.pure I (v := .int k (k.wrap (0 - a))) (by simp [execOp, ho, e1, Op.unary, Op.intArith]) (SVRep.one ⟨rfl, wrap_valid _ _⟩)
  · rename_i b
    cases he
    have e1 : act.eval x = .bool b := by simpa using (show [act.eval x] = [.bool b] from hx)
    exact OpWp.pure I (v := .bool (!b)) (by simp [execOp, ho, e1, Op.unary]) (SVRep.one rfl)
  · rename_i b
    cases he
    have e1 : act.eval x = .bool b := by simpa using (show [act.eval x] = [.bool b] from hx)
    exact OpWp.pure I (v := .bool (!b)) (by simp [execOp, ho, e1, Op.unary]) (SVRep.one rfl)
  · cases he
end
end Go.Vc
