/- What functions of this seat compute, in plain Lean. -/
import Derived.Test.YtekapagdkclokaaC
set_option linter.unusedVariables false
set_option linter.unusedSimpArgs false
set_option maxRecDepth 100000
namespace Go.Proofs.Ytekapagdkclokaa
open Go.Vc
namespace U
def eqR (a b : List Rule) : Bool := a == b
def risingGo : List Rule → Bool
  | [] => true
  | [_] => true
  | x :: y :: r => bytesLt x.1 y.1 && risingGo (y :: r)
def setGo (box : List Int) (keep : Int) : List Rule → Bool → List Rule
  | [], put => if put then [] else [(box, keep)]
  | r :: t, put => (if !put && !(bytesLt r.1 box) then [(box, keep)] else []) ++ ((if r.1 = box then [] else [r]) ++ setGo box keep t (put || !(bytesLt r.1 box)))
end U
namespace U
def st22_4 (a b : List Rule) (i : Int) : St2 := ⟨⟨[sL false tRule a] ++ [sL false tRule b] ++ U.n 3 ++ [sI i] ++ U.n 20, [], []⟩, 0, []⟩
def I22_4 (a b : List Rule)  (i : Int) : Prop := at_ a i ∧ a.length = b.length ∧ a.take i.toNat = b.take i.toNat
def st20_2 (l : List Rule) (i : Int) : St2 := ⟨⟨[sL false tRule l] ++ U.n 2 ++ [sI i] ++ U.n 18, [], []⟩, 0, []⟩
def I20_2 (l : List Rule)  (i : Int) : Prop := 1 ≤ i ∧ risingGo l = risingGo (l.drop (i.toNat - 1))
def st23_4 (l : List Rule) (box : List Int) (keep : Int) (o : List Rule) (put : Bool) (i : Int) : St2 := ⟨⟨[sL false tRule l] ++ [sS box] ++ [sI keep] ++ U.n 4 ++ [own 0] ++ [sB put] ++ [sI i] ++ U.n 48, [], [(0, .row 54 tRule true true o)]⟩, 1, []⟩
def I23_4 (l : List Rule) (box : List Int) (keep : Int)  (o : List Rule) (put : Bool) (i : Int) : Prop := at_ l i ∧ o.length ≤ i.toNat + 1 ∧ (put = false → o.length ≤ i.toNat) ∧ setGo box keep l (decide (keep ≤ 0)) = o ++ setGo box keep (l.drop i.toNat) put
end U
def lp22_4 (a b : List Rule) : Vc.Loop := ⟨{ keep := [0, 1, 5] }, Int, fun x => U.st22_4 a b x, fun x0 x => U.I22_4 a b  x, fun x => a.length - x.toNat⟩
def lp20_2 (l : List Rule) : Vc.Loop := ⟨{ keep := [0, 3] }, Int, fun x => U.st20_2 l x, fun x0 x => U.I20_2 l  x, fun x => l.length - x.toNat⟩
def lp23_4 (l : List Rule) (box : List Int) (keep : Int) : Vc.Loop := ⟨{ keep := [0, 1, 2, 7, 8, 9], wake := [(7, 54)] }, List Rule × Bool × Int, fun x => U.st23_4 l box keep x.1 x.2.1 x.2.2, fun x0 x => U.I23_4 l box keep  x.1 x.2.1 x.2.2, fun x => l.length - x.2.2.toNat⟩
def d21 (l : List Rule) (box : List Int) (keep : Int) : Done := ⟨[List.length l ≤ 100000], .one (.psl true tRule (U.setR l box keep)), [], []⟩
def s21 : Vc.Sum := .pure [tRules, .str, .int .i64] false fun x => d21 x.1 x.2.1 x.2.2
def L21 (l : List Rule) (box : List Int) (keep : Int) : Nat → List V → Nat → Option Vc.Loop := noKeep
def d22 (a : List Rule) (b : List Rule) : Done := rB (U.eqR a b)
def s22 : Vc.Sum := .pure [tRules, tRules] false fun x => d22 x.1 x.2
def L22 (a : List Rule) (b : List Rule) : Nat → List V → Nat → Option Vc.Loop := fun f v k => cond (Nat.beq f 22 && Nat.beq k 4) (some (lp22_4 a b)) <| none
def d20 (l : List Rule) : Done := rB (U.risingGo l)
def s20 : Vc.Sum := .pure [tRules] false fun x => d20 x
def L20 (l : List Rule) : Nat → List V → Nat → Option Vc.Loop := fun f v k => cond (Nat.beq f 20 && Nat.beq k 2) (some (lp20_2 l)) <| none
def d23 (l : List Rule) (box : List Int) (keep : Int) : Done := ⟨[List.length l ≤ 100000], .one (.psl true tRule (U.setGo box keep l (decide (keep ≤ 0)))), [], []⟩
def s23 : Vc.Sum := .pure [tRules, .str, .int .i64] false fun x => d23 x.1 x.2.1 x.2.2
def L23 (l : List Rule) (box : List Int) (keep : Int) : Nat → List V → Nat → Option Vc.Loop := fun f v k => cond (Nat.beq f 23 && Nat.beq k 4) (some (lp23_4 l box keep)) <| none
def QG : List (Nat × Vc.Sum) := (21, s21) :: (22, s22) :: (20, s20) :: (23, s23) :: QF
end Go.Proofs.Ytekapagdkclokaa
/- What is owed of the functions, in plain Lean (printed by a program of this project). -/
set_option maxRecDepth 100000
set_option linter.unusedVariables false
namespace Go.Proofs.Ytekapagdkclokaa
open Go.Vc
def vc21 (l : List Rule) (box : List Int) (keep : Int) : Prop :=
  ∀ (nb : Bool),
    (nb = true → l.length = (0 : Nat)) →
      (false = true → nb = true) →
        bif nb then
          bif decide (keep ≤ (0 : Int)) then [] = U.setR l box keep ∧ True
          else
            bif decide (Int.neg (1 : Int) < (0 : Int)) then
              (1 : Nat) = (1 : Nat) ∧
                (0 : Int) = (0 : Int) ∧ [(([] : List Int), (0 : Int))].set (0 : Nat) (box, keep) = U.setR l box keep ∧ True
            else
              (1 : Nat) = (1 : Nat) ∧
                Int.neg (1 : Int) = (0 : Int) ∧ [(([] : List Int), (0 : Int))].set (0 : Nat) (box, keep) = U.setR l box keep ∧ True
        else
          (Nat.add (0 : Nat) l.length).mul (24 : Nat) ≤ (140737488355328 : Nat) ∧
            Nat.add (0 : Nat) l.length ≤ maxLen ∧
              bif decide (keep ≤ (0 : Int)) then U.del l box = U.setR l box keep ∧ True
              else
                bif decide (U.idx1 (U.gtBox box) (U.del l box) (0 : Int) < (0 : Int)) then
                  (1 : Nat) = (1 : Nat) ∧
                    (U.del l box).length ≤ (1000000 : Nat) ∧
                      (0 : Int) ≤ (↑(U.del l box).length : Int) ∧
                        (↑(U.del l box).length : Int) ≤ (↑(U.del l box).length : Int) ∧
                          U.ins (U.del l box) (↑(U.del l box).length : Int).toNat
                                ([(([] : List Int), (0 : Int))].set (0 : Nat) (box, keep)) =
                              U.setR l box keep ∧
                            True
                else
                  (1 : Nat) = (1 : Nat) ∧
                    (U.del l box).length ≤ (1000000 : Nat) ∧
                      (0 : Int) ≤ U.idx1 (U.gtBox box) (U.del l box) (0 : Int) ∧
                        U.idx1 (U.gtBox box) (U.del l box) (0 : Int) ≤ (↑(U.del l box).length : Int) ∧
                          U.ins (U.del l box) (U.idx1 (U.gtBox box) (U.del l box) (0 : Int)).toNat
                                ([(([] : List Int), (0 : Int))].set (0 : Nat) (box, keep)) =
                              U.setR l box keep ∧
                            True
def vc22 (a : List Rule) (b : List Rule) : Prop :=
  bif (↑a.length : Int) != (↑b.length : Int) then false = U.eqR a b ∧ True
  else
    ∃ (x0 : Int),
      (U.st22_4 a b (0 : Int) = U.st22_4 a b x0 ∧ U.I22_4 a b x0) ∧
        ∀ (x : Int),
          U.I22_4 a b x →
            bif decide (x < (↑a.length : Int)) then
              (0 : Int) ≤ x ∧
                x < (↑a.length : Int) ∧
                  (0 : Int) ≤ x ∧
                    x < (↑b.length : Int) ∧
                      bif
                          !((a.getD x.toNat (([] : List Int), (0 : Int))).fst.beq (b.getD x.toNat (([] : List Int), (0 : Int))).fst &&
                              (decide ((a.getD x.toNat (([] : List Int), (0 : Int))).snd = (b.getD x.toNat (([] : List Int), (0 : Int))).snd) &&
                                true)) then
                        false = U.eqR a b ∧ True
                      else
                        ∃ (y : Int),
                          U.st22_4 a b (IntKind.i64.wrap (x.add (1 : Int))) = U.st22_4 a b y ∧
                            U.I22_4 a b y ∧ a.length.sub y.toNat < a.length.sub x.toNat
            else true = U.eqR a b ∧ True
def vc20 (l : List Rule) : Prop :=
  ∃ (x0 : Int),
    (U.st20_2 l (1 : Int) = U.st20_2 l x0 ∧ U.I20_2 l x0) ∧
      ∀ (x : Int),
        U.I20_2 l x →
          bif decide (x < (↑l.length : Int)) then
            (0 : Int) ≤ IntKind.i64.wrap (x.sub (1 : Int)) ∧
              IntKind.i64.wrap (x.sub (1 : Int)) < (↑l.length : Int) ∧
                (0 : Int) ≤ x ∧
                  x < (↑l.length : Int) ∧
                    bif
                        !bytesLt (l.getD (IntKind.i64.wrap (x.sub (1 : Int))).toNat (([] : List Int), (0 : Int))).fst
                            (l.getD x.toNat (([] : List Int), (0 : Int))).fst then
                      false = U.risingGo l ∧ True
                    else
                      ∃ (y : Int),
                        U.st20_2 l (IntKind.i64.wrap (x.add (1 : Int))) = U.st20_2 l y ∧
                          U.I20_2 l y ∧ l.length.sub y.toNat < l.length.sub x.toNat
          else true = U.risingGo l ∧ True
def vc23 (l : List Rule) (box : List Int) (keep : Int) : Prop :=
  ∃ (x0 : List (List Int × Int) × Bool × Int),
    (U.st23_4 l box keep [] (decide (keep ≤ (0 : Int))) (0 : Int) = U.st23_4 l box keep x0.fst x0.snd.fst x0.snd.snd ∧
        U.I23_4 l box keep x0.fst x0.snd.fst x0.snd.snd) ∧
      ∀ (x : List (List Int × Int) × Bool × Int),
        U.I23_4 l box keep x.fst x.snd.fst x.snd.snd →
          bif decide (x.snd.snd < (↑l.length : Int)) then
            ((!x.snd.fst) = true → (0 : Int) ≤ x.snd.snd) ∧
              ((!x.snd.fst) = true → x.snd.snd < (↑l.length : Int)) ∧
                bif bif !x.snd.fst then !bytesLt (l.getD x.snd.snd.toNat (([] : List Int), (0 : Int))).fst box else false then
                  (x.fst.length.add ((1 : Nat))).mul (24 : Nat) ≤ (140737488355328 : Nat) ∧
                    x.fst.length.add ((1 : Nat)) ≤ maxLen ∧
                      (0 : Int) ≤ x.snd.snd ∧
                        x.snd.snd < (↑l.length : Int) ∧
                          bif !(l.getD x.snd.snd.toNat (([] : List Int), (0 : Int))).fst.beq box then
                            (0 : Int) ≤ x.snd.snd ∧
                              x.snd.snd < (↑l.length : Int) ∧
                                ((x.fst.append ([(([] : List Int), (0 : Int))].set (0 : Nat) (box, keep))).length.add
                                          ((1 : Nat))).mul
                                      (24 : Nat) ≤
                                    (140737488355328 : Nat) ∧
                                  (x.fst.append ([(([] : List Int), (0 : Int))].set (0 : Nat) (box, keep))).length.add ((1 : Nat)) ≤
                                      maxLen ∧
                                    ∃ (y : List (List Int × Int) × Bool × Int),
                                      U.st23_4 l box keep
                                            ((x.fst.append ([(([] : List Int), (0 : Int))].set (0 : Nat) (box, keep))).append
                                              ([(([] : List Int), (0 : Int))].set (0 : Nat)
                                                (l.getD x.snd.snd.toNat (([] : List Int), (0 : Int)))))
                                            true (IntKind.i64.wrap (x.snd.snd.add (1 : Int))) =
                                          U.st23_4 l box keep y.fst y.snd.fst y.snd.snd ∧
                                        U.I23_4 l box keep y.fst y.snd.fst y.snd.snd ∧
                                          l.length.sub y.snd.snd.toNat < l.length.sub x.snd.snd.toNat
                          else
                            ∃ (y : List (List Int × Int) × Bool × Int),
                              U.st23_4 l box keep (x.fst.append ([(([] : List Int), (0 : Int))].set (0 : Nat) (box, keep))) true
                                    (IntKind.i64.wrap (x.snd.snd.add (1 : Int))) =
                                  U.st23_4 l box keep y.fst y.snd.fst y.snd.snd ∧
                                U.I23_4 l box keep y.fst y.snd.fst y.snd.snd ∧
                                  l.length.sub y.snd.snd.toNat < l.length.sub x.snd.snd.toNat
                else
                  (0 : Int) ≤ x.snd.snd ∧
                    x.snd.snd < (↑l.length : Int) ∧
                      bif !(l.getD x.snd.snd.toNat (([] : List Int), (0 : Int))).fst.beq box then
                        (0 : Int) ≤ x.snd.snd ∧
                          x.snd.snd < (↑l.length : Int) ∧
                            (x.fst.length.add ((1 : Nat))).mul (24 : Nat) ≤ (140737488355328 : Nat) ∧
                              x.fst.length.add ((1 : Nat)) ≤ maxLen ∧
                                ∃ (y : List (List Int × Int) × Bool × Int),
                                  U.st23_4 l box keep
                                        (x.fst.append
                                          ([(([] : List Int), (0 : Int))].set (0 : Nat) (l.getD x.snd.snd.toNat (([] : List Int), (0 : Int)))))
                                        x.snd.fst (IntKind.i64.wrap (x.snd.snd.add (1 : Int))) =
                                      U.st23_4 l box keep y.fst y.snd.fst y.snd.snd ∧
                                    U.I23_4 l box keep y.fst y.snd.fst y.snd.snd ∧
                                      l.length.sub y.snd.snd.toNat < l.length.sub x.snd.snd.toNat
                      else
                        ∃ (y : List (List Int × Int) × Bool × Int),
                          U.st23_4 l box keep x.fst x.snd.fst (IntKind.i64.wrap (x.snd.snd.add (1 : Int))) =
                              U.st23_4 l box keep y.fst y.snd.fst y.snd.snd ∧
                            U.I23_4 l box keep y.fst y.snd.fst y.snd.snd ∧
                              l.length.sub y.snd.snd.toNat < l.length.sub x.snd.snd.toNat
          else
            bif !x.snd.fst then
              (x.fst.length.add ((1 : Nat))).mul (24 : Nat) ≤ (140737488355328 : Nat) ∧
                x.fst.length.add ((1 : Nat)) ≤ maxLen ∧
                  x.fst.append ([(([] : List Int), (0 : Int))].set (0 : Nat) (box, keep)) =
                      U.setGo box keep l (decide (keep ≤ (0 : Int))) ∧
                    True
            else x.fst = U.setGo box keep l (decide (keep ≤ (0 : Int))) ∧ True
end Go.Proofs.Ytekapagdkclokaa
/- What is owed of Set and of the document's answers about rules, proved in plain Lean. -/
set_option linter.unusedSimpArgs false
set_option linter.unusedVariables false
set_option maxRecDepth 100000
namespace Go.Proofs.Ytekapagdkclokaa
open Go.Vc
open Go.Vc.T
theorem del_len (l : List Rule) (box : List Int) : (U.del l box).length ≤ l.length := List.length_filter_le _ _
theorem ok21 (l : List Rule) (box : List Int) (keep : Int) (hl : l.length ≤ 100000) : vc21 l box keep := by
  unfold vc21
  intro nb h1 _
  have hd := del_len l box
  have hi := idx1_ge (U.gtBox box) (U.del l box) 0 (by omega)
  simp only [cond_prop, int_neg, nat_add, nat_mul, maxLen_eq, U.setR, U.place, List.set_cons_zero]
  refine ⟨fun hn => ?_, fun hn => ⟨by omega, by omega, fun hk => ?_, fun hk => ⟨fun hx => ?_, fun hx => ?_⟩⟩⟩
  · have : l = [] := List.eq_nil_of_length_eq_zero (h1 hn)
    subst this
    refine ⟨fun hk => ?_, fun hk => ⟨fun _ => ?_, fun h => by simp at h⟩⟩
    · have hk : keep ≤ 0 := of_decide_eq_true hk
      simp [hk, U.del]
    · have hk : ¬ keep ≤ 0 := of_decide_eq_false hk
      simp [hk, U.del, U.idx1, U.ins]
  · have hk : keep ≤ 0 := of_decide_eq_true hk
    simp [hk]
  · have hk : ¬ keep ≤ 0 := of_decide_eq_false hk
    have hx : U.idx1 (U.gtBox box) (U.del l box) 0 < 0 := of_decide_eq_true hx
    refine ⟨trivial, by omega, by omega, by omega, ?_, trivial⟩
    rw [if_neg hk, if_pos hx]; simp
  · have hk : ¬ keep ≤ 0 := of_decide_eq_false hk
    have hx : ¬ U.idx1 (U.gtBox box) (U.del l box) 0 < 0 := of_decide_eq_false hx
    have hlt : U.idx1 (U.gtBox box) (U.del l box) 0 ≤ (U.del l box).length := by
      rcases hi with ⟨h, _⟩ | ⟨k, h, h2, _⟩ <;> omega
    refine ⟨trivial, by omega, by omega, hlt, ?_, trivial⟩
    rw [if_neg hk, if_neg hx]
theorem eqR_iff (a b : List Rule) : U.eqR a b = true ↔ a = b := by unfold U.eqR; exact beq_iff_eq
theorem ok22 (a b : List Rule) (hl : a.length ≤ 9223372036854775807) : vc22 a b := by
  unfold vc22
  have he := eqR_iff a b
  simp only [cond_prop, int_add, nat_sub, list_beq, U.I22_4, U.at_]
  refine ⟨?_, fun hlen => ⟨_, ⟨rfl, ?_⟩, ?_⟩⟩
  · grind
  · grind
  · rintro x ⟨⟨h0, h1⟩, h2, h3⟩
    simp only [wrap_i64]
    have := @take_succ_iff' Rule a b x h0
    have := @take_end Rule a x
    have := @take_end Rule b x
    have hp : ∀ p q : Rule, p = q ↔ p.1 = q.1 ∧ p.2 = q.2 := fun p q => Prod.ext_iff
    repeat' (first | apply And.intro | intro _ | refine Exists.intro _ (And.intro rfl ?_))
    all_goals grind
theorem ok20 (l : List Rule) (hl : l.length ≤ 9223372036854775807) : vc20 l := by
  unfold vc20
  simp only [cond_prop, int_add, int_sub, nat_sub, list_beq, U.I20_2]
  refine ⟨_, ⟨rfl, ?_⟩, ?_⟩
  · simp
  · rintro x ⟨h0, h1⟩
    obtain ⟨k, rfl⟩ := Int.eq_ofNat_of_zero_le (show 0 ≤ x by omega)
    have hk : 1 ≤ k := by omega
    simp only [Int.toNat_natCast] at h1 ⊢
    refine ⟨fun hx => ?_, fun hx => ?_⟩
    · have hx : k < l.length := by have := of_decide_eq_true hx; omega
      have hw1 : IntKind.wrap .i64 ((k : Int) - 1) = ((k - 1 : Nat) : Int) := by rw [wrap_i64]; omega
      have hw2 : IntKind.wrap .i64 ((k : Int) + 1) = ((k + 1 : Nat) : Int) := by rw [wrap_i64]; omega
      rw [hw1, hw2]
      simp only [Int.toNat_natCast]
      have e1 := List.drop_eq_getElem_cons (l := l) (i := k - 1) (by omega)
      have e2 := List.drop_eq_getElem_cons (l := l) (i := k) hx
      rw [show k - 1 + 1 = k by omega, e2] at e1
      rw [e1] at h1
      have hd : U.risingGo l = (bytesLt l[k-1].1 l[k].1 && U.risingGo (l[k] :: l.drop (k + 1))) := h1
      rw [getD_at (show k - 1 < l.length by omega), getD_at hx]
      refine ⟨by omega, by omega, by omega, by omega, fun hb => ?_, fun hb => ?_⟩
      · have hb : bytesLt l[k-1].1 l[k].1 = false := by simpa using hb
        rw [hd, hb]; simp
      · have hb : bytesLt l[k-1].1 l[k].1 = true := by simpa using hb
        refine ⟨((k + 1 : Nat) : Int), rfl, ⟨by omega, ?_⟩, ?_⟩
        · rw [hd, hb, Int.toNat_natCast, show k + 1 - 1 = k by omega, e2]; rfl
        · rw [Int.toNat_natCast]; omega
    · have hx : l.length ≤ k := by have := of_decide_eq_false hx; omega
      have : U.risingGo (l.drop (k - 1)) = true := by
        by_cases h : k - 1 < l.length
        · rw [List.drop_eq_getElem_cons h, List.drop_of_length_le (by omega)]; rfl
        · rw [List.drop_of_length_le (by omega)]; rfl
      rw [h1, this]; exact ⟨rfl, trivial⟩
theorem ok23 (l : List Rule) (box : List Int) (keep : Int) (hl : l.length ≤ 100000) : vc23 l box keep := by
  unfold vc23
  simp only [cond_prop, cond_and, int_add, nat_sub, nat_add, nat_mul, list_beq, list_append, U.I23_4, U.at_, maxLen_eq, List.set_cons_zero]
  refine ⟨([], decide (keep ≤ 0), 0), ⟨rfl, ?_⟩, ?_⟩
  · simp
  · rintro ⟨o, put, i⟩ ⟨⟨h0, h1⟩, h2, h3, h4⟩
    simp only at h0 h1 h2 h3 h4
    obtain ⟨k, rfl⟩ := Int.eq_ofNat_of_zero_le h0
    simp only [Int.toNat_natCast] at h2 h3 h4 ⊢
    refine ⟨fun hx => ?_, fun hx => ?_⟩
    · have hx : k < l.length := by have := of_decide_eq_true hx; omega
      have hw : IntKind.wrap .i64 ((k : Int) + 1) = ((k + 1 : Nat) : Int) := by rw [wrap_i64]; omega
      have e2 := List.drop_eq_getElem_cons (l := l) (i := k) hx
      rw [e2] at h4
      simp only [U.setGo] at h4
      rw [hw, getD_at hx]
      have heq : ∀ q : Bool, (!(l[k].1 == box)) = q → (l[k].1 = box ↔ q = false) := by intro q hq; cases q <;> simp_all
      refine ⟨fun _ => by omega, fun _ => by omega, fun hb => ?_, fun hb => ?_⟩
      · have hb : put = false ∧ bytesLt l[k].1 box = false := by simpa using hb
        obtain ⟨rfl, hb2⟩ := hb
        have := h3 rfl
        refine ⟨by omega, by omega, by omega, by omega, fun hq => ?_, fun hq => ?_⟩
        · have hq : ¬ l[k].1 = box := by simpa using hq
          refine ⟨by omega, by omega, by simp; omega, by simp; omega, ((o ++ [(box, keep)]) ++ [l[k]], true, ((k + 1 : Nat) : Int)), rfl, ?_, by show l.length - (k + 1) < l.length - k; omega⟩
          refine ⟨by show (0 : Int) ≤ ((k + 1 : Nat) : Int) ∧ ((k + 1 : Nat) : Int) ≤ l.length; omega, by simp; omega, fun h => (by cases h), ?_⟩
          rw [h4]
          simp [hb2, hq]
        · have hq : l[k].1 = box := by simpa using hq
          refine ⟨((o ++ [(box, keep)]), true, ((k + 1 : Nat) : Int)), rfl, ?_, by show l.length - (k + 1) < l.length - k; omega⟩
          refine ⟨by show (0 : Int) ≤ ((k + 1 : Nat) : Int) ∧ ((k + 1 : Nat) : Int) ≤ l.length; omega, by simp; omega, fun h => (by cases h), ?_⟩
          rw [h4, hb2, if_pos hq]
          simp
      · have hb : put = true ∨ bytesLt l[k].1 box = true := by cases put <;> simp_all
        refine ⟨by omega, by omega, fun hq => ?_, fun hq => ?_⟩
        · have hq : ¬ l[k].1 = box := by simpa using hq
          refine ⟨by omega, by omega, by omega, by omega, ((o ++ [l[k]]), put, ((k + 1 : Nat) : Int)), rfl, ?_, by show l.length - (k + 1) < l.length - k; omega⟩
          refine ⟨by show (0 : Int) ≤ ((k + 1 : Nat) : Int) ∧ ((k + 1 : Nat) : Int) ≤ l.length; omega, by simp; omega, fun h => (by have := h3 h; simp; omega), ?_⟩
          rw [h4]
          rcases hb with rfl | hb
          · simp [hq]
          · simp [hb, hq]
        · have hq : l[k].1 = box := by simpa using hq
          refine ⟨(o, put, ((k + 1 : Nat) : Int)), rfl, ?_, by show l.length - (k + 1) < l.length - k; omega⟩
          refine ⟨by show (0 : Int) ≤ ((k + 1 : Nat) : Int) ∧ ((k + 1 : Nat) : Int) ≤ l.length; omega, by simp; omega, fun h => (by have := h3 h; simp; omega), ?_⟩
          rw [h4]
          rw [if_pos hq]
          rcases hb with rfl | hb
          · simp
          · rw [hb]; simp
    · have hx : l.length ≤ k := by have := of_decide_eq_false hx; omega
      rw [List.drop_of_length_le hx] at h4
      refine ⟨fun hp => ?_, fun hp => ?_⟩
      · have hp : put = false := by simpa using hp
        subst hp
        have := h3 rfl
        refine ⟨by omega, by omega, ?_, trivial⟩
        rw [h4]; simp [U.setGo]
      · have hp : put = true := by simpa using hp
        subst hp
        refine ⟨?_, trivial⟩
        rw [h4]; simp [U.setGo]
end Go.Proofs.Ytekapagdkclokaa
/- The functions' summaries hold of the program. -/
set_option linter.unusedSimpArgs false
set_option maxRecDepth 100000
set_option linter.unusedVariables false
namespace Go.Proofs.Ytekapagdkclokaa
open Go.Vc
theorem w21 (x : DenL [tRules, .str, .int .i64]) : Owes Try.prog (cfgOf QF) (L21 x.1 x.2.1 x.2.2) 21 (argVs [tRules, .str, .int .i64] x) [] (d21 x.1 x.2.1 x.2.2) = vc21 x.1 x.2.1 x.2.2 := by kernel_rfl
theorem q21 : Pok 21 [tRules, .str, .int .i64] (fun x => d21 x.1 x.2.1 x.2.2) := by
  refine pk (L := fun x => L21 x.1 x.2.1 x.2.2) (l := QF) aQF (fun _ => rfl) ?_
  intro x hv hp
  rw [w21]
  exact ok21 x.1 x.2.1 x.2.2 (hp (List.length x.1 ≤ 100000) (by simp [d21]))
theorem p21 : SumOk Try.prog gl 21 s21 := q21
theorem w22 (x : DenL [tRules, tRules]) : Owes Try.prog (cfgOf []) (L22 x.1 x.2) 22 (argVs [tRules, tRules] x) [] (d22 x.1 x.2) = vc22 x.1 x.2 := by kernel_rfl
theorem q22 : Pok 22 [tRules, tRules] (fun x => d22 x.1 x.2) := by
  refine pk (L := fun x => L22 x.1 x.2) (l := []) allNil (fun _ => rfl) ?_
  intro x hv hp
  rw [w22]
  exact ok22 x.1 x.2 hv.1.2
theorem p22 : SumOk Try.prog gl 22 s22 := q22
theorem w20 (x : DenL [tRules]) : Owes Try.prog (cfgOf []) (L20 x) 20 (argVs [tRules] x) [] (d20 x) = vc20 x := by kernel_rfl
theorem q20 : Pok 20 [tRules] (fun x => d20 x) := by
  refine pk (L := fun x => L20 x) (l := []) allNil (fun _ => rfl) ?_
  intro x hv hp
  rw [w20]
  exact ok20 x hv.2
theorem p20 : SumOk Try.prog gl 20 s20 := q20
theorem w23 (x : DenL [tRules, .str, .int .i64]) : Owes Try.prog (cfgOf []) (L23 x.1 x.2.1 x.2.2) 23 (argVs [tRules, .str, .int .i64] x) [] (d23 x.1 x.2.1 x.2.2) = vc23 x.1 x.2.1 x.2.2 := by kernel_rfl
theorem q23 : Pok 23 [tRules, .str, .int .i64] (fun x => d23 x.1 x.2.1 x.2.2) := by
  refine pk (L := fun x => L23 x.1 x.2.1 x.2.2) (l := []) allNil (fun _ => rfl) ?_
  intro x hv hp
  rw [w23]
  exact ok23 x.1 x.2.1 x.2.2 (hp (List.length x.1 ≤ 100000) (by simp [d23]))
theorem p23 : SumOk Try.prog gl 23 s23 := q23
theorem aQG : AllOk QG := .cons p21 (.cons p22 (.cons p20 (.cons p23 aQF)))
end Go.Proofs.Ytekapagdkclokaa
