/- What functions of this seat compute, in plain Lean. -/
import Derived.Test.YtoecpaccpcnkcaaDoorC
set_option linter.unusedVariables false
set_option linter.unusedSimpArgs false
set_option maxRecDepth 100000
namespace Go.Proofs.YtoecpaccpcnkcaaDoor
open Go.Vc
namespace U
def stlaw04_ShaBlocks_10 (b : List Int) (h : List Int) (i : Int) : St2 := ⟨⟨[sL false (.int .u8) b] ++ U.n 2 ++ [sL true (.int .u8) (pad b)] ++ [sP 0 0] ++ [sI i] ++ U.n 75, [], [(0, .obj [.arr 8 true (.int .u32) h])]⟩, 1, []⟩
def Ilaw04_ShaBlocks_10 (b : List Int)  (h : List Int) (i : Int) : Prop := 0 ≤ i ∧ i ≤ (pad b).length ∧ ∃ k : Nat, i = 64 * (k : Int) ∧ h = ((chunks 64 (pad b)).take k).foldl step shaFirst
def stlaw04_ShaBlocks_14 (b : List Int) (h : List Int) (bl : List Int) (i : Int) (k : Int) : St2 := ⟨⟨[sL false (.int .u8) b] ++ U.n 2 ++ [sL true (.int .u8) (pad b)] ++ [sP 0 0] ++ [sI i] ++ [sP 1 0] ++ [sI k] ++ U.n 73, [], [(0, .obj [.arr 8 true (.int .u32) h]), (1, .obj [.arr 64 true (.int .u8) bl])]⟩, 2, []⟩
def Ilaw04_ShaBlocks_14 (b : List Int) (h' : List Int) (bl' : List Int) (i' : Int) (k' : Int) (h : List Int) (bl : List Int) (i : Int) (k : Int) : Prop :=  h = h' ∧ i = i' ∧ 0 ≤ i ∧ i + 64 ≤ (pad b).length ∧ 0 ≤ k ∧ k ≤ 64 ∧ bl = pad64 64 (((pad b).drop i.toNat).take k.toNat)
def stlaw04_ShaBlocks_20 (b : List Int) (h : List Int) (s : List Int) (i : Int) : St2 := ⟨⟨U.n 4 ++ [sP 0 0] ++ U.n 3 ++ [sP 1 0] ++ [sI i] ++ U.n 71, [], [(0, .obj [.arr 8 true (.int .u32) h]), (1, .obj [.arr 32 true (.int .u8) s])]⟩, 2, []⟩
def Ilaw04_ShaBlocks_20 (b : List Int)  (h : List Int) (s : List Int) (i : Int) : Prop := h = sums b ∧ s = sum b ∧ 0 ≤ i ∧ i ≤ 32
end U
def lplaw04_ShaBlocks_10 (b : List Int) : Vc.Loop := ⟨{ keep := [0, 3, 4, 5] }, List Int × Int, fun x => U.stlaw04_ShaBlocks_10 b x.1 x.2, fun x0 x => U.Ilaw04_ShaBlocks_10 b  x.1 x.2, fun x => (U.pad b).length - x.2.toNat⟩
def lplaw04_ShaBlocks_14 (b : List Int) : Vc.Loop := ⟨{ keep := [0, 3, 4, 5, 6, 7] }, List Int × List Int × Int × Int, fun x => U.stlaw04_ShaBlocks_14 b x.1 x.2.1 x.2.2.1 x.2.2.2, fun x0 x => U.Ilaw04_ShaBlocks_14 b x0.1 x0.2.1 x0.2.2.1 x0.2.2.2 x.1 x.2.1 x.2.2.1 x.2.2.2, fun x => 64 - x.2.2.2.toNat⟩
def lplaw04_ShaBlocks_20 (b : List Int) : Vc.Loop := ⟨{ keep := [4, 8, 9] }, List Int × List Int × Int, fun x => U.stlaw04_ShaBlocks_20 b x.1 x.2.1 x.2.2, fun x0 x => U.Ilaw04_ShaBlocks_20 b  x.1 x.2.1 x.2.2, fun x => 32 - x.2.2.toNat⟩
def dlaw04_ShaBlocks (b : List Int) : Done := sayTrue [tBytes] b
def slaw04_ShaBlocks : Vc.Sum := .pure [tBytes] false fun x => dlaw04_ShaBlocks x
def Llaw04_ShaBlocks (b : List Int) : Nat → List V → Nat → Option Vc.Loop := fun f v k => cond (Nat.beq f 5 && Nat.beq k 10) (some (lplaw04_ShaBlocks_10 b)) <| cond (Nat.beq f 5 && Nat.beq k 14) (some (lplaw04_ShaBlocks_14 b)) <| cond (Nat.beq f 5 && Nat.beq k 20) (some (lplaw04_ShaBlocks_20 b)) <| none
def dlaw04_ShaSums (b : List Int) : Done := sayTrue [tBytes] b
def slaw04_ShaSums : Vc.Sum := .pure [tBytes] false fun x => dlaw04_ShaSums x
def Llaw04_ShaSums (b : List Int) : Nat → List V → Nat → Option Vc.Loop := noKeep
def dlaw04_ShaSteps (h : List Int) (b : List Int) (s : List Int) : Done := sayTrue [tW8, tK64, tS32] (h, b, s)
def slaw04_ShaSteps : Vc.Sum := .pure [tW8, tK64, tS32] false fun x => dlaw04_ShaSteps x.1 x.2.1 x.2.2
def Llaw04_ShaSteps (h : List Int) (b : List Int) (s : List Int) : Nat → List V → Nat → Option Vc.Loop := noKeep
end Go.Proofs.YtoecpaccpcnkcaaDoor
/- What is owed of the functions, in plain Lean (printed by a program of this project). -/
set_option maxRecDepth 100000
set_option linter.unusedVariables false
namespace Go.Proofs.YtoecpaccpcnkcaaDoor
open Go.Vc
def vclaw04_ShaBlocks (b : List Int) : Prop :=
  bif decide ((↑b.length : Int) > (2000 : Int)) then true = true ∧ True
  else
    b.length ≤ (1000000000000 : Nat) ∧
      (64 : Int) ≠ (0 : Int) ∧
        ((bif (↑(U.pad b).length : Int).tmod (64 : Int) != (0 : Int) then true
              else decide ((↑(U.pad b).length : Int) ≤ (↑b.length : Int))) =
              false →
            (0 : Int) ≤ (0 : Int)) ∧
          ((bif (↑(U.pad b).length : Int).tmod (64 : Int) != (0 : Int) then true
                else decide ((↑(U.pad b).length : Int) ≤ (↑b.length : Int))) =
                false →
              (0 : Int) ≤ (↑b.length : Int)) ∧
            ((bif (↑(U.pad b).length : Int).tmod (64 : Int) != (0 : Int) then true
                  else decide ((↑(U.pad b).length : Int) ≤ (↑b.length : Int))) =
                  false →
                (↑b.length : Int) ≤ (↑(U.pad b).length : Int)) ∧
              bif
                  bif
                      bif (↑(U.pad b).length : Int).tmod (64 : Int) != (0 : Int) then true
                      else decide ((↑(U.pad b).length : Int) ≤ (↑b.length : Int)) then
                    true
                  else
                    !(List.take ((↑b.length : Int).toNat.sub (Int.toNat (0 : Int)))
                            (List.drop (Int.toNat (0 : Int)) (U.pad b))).beq
                        b then
                false = true ∧ True
              else
                ∃ (x0 : List Int × Int),
                  (U.stlaw04_ShaBlocks_10 b U.first8 (0 : Int) = U.stlaw04_ShaBlocks_10 b x0.fst x0.snd ∧
                      U.Ilaw04_ShaBlocks_10 b x0.fst x0.snd) ∧
                    ∀ (x : List Int × Int),
                      U.Ilaw04_ShaBlocks_10 b x.fst x.snd →
                        bif decide (x.snd < (↑(U.pad b).length : Int)) then
                          ∃ (x0 : List Int × List Int × Int × Int),
                            (U.stlaw04_ShaBlocks_14 b x.fst
                                    [(0 : Int), (0 : Int), (0 : Int), (0 : Int), (0 : Int), (0 : Int), (0 : Int),
                                      (0 : Int), (0 : Int), (0 : Int), (0 : Int), (0 : Int), (0 : Int), (0 : Int),
                                      (0 : Int), (0 : Int), (0 : Int), (0 : Int), (0 : Int), (0 : Int), (0 : Int),
                                      (0 : Int), (0 : Int), (0 : Int), (0 : Int), (0 : Int), (0 : Int), (0 : Int),
                                      (0 : Int), (0 : Int), (0 : Int), (0 : Int), (0 : Int), (0 : Int), (0 : Int),
                                      (0 : Int), (0 : Int), (0 : Int), (0 : Int), (0 : Int), (0 : Int), (0 : Int),
                                      (0 : Int), (0 : Int), (0 : Int), (0 : Int), (0 : Int), (0 : Int), (0 : Int),
                                      (0 : Int), (0 : Int), (0 : Int), (0 : Int), (0 : Int), (0 : Int), (0 : Int),
                                      (0 : Int), (0 : Int), (0 : Int), (0 : Int), (0 : Int), (0 : Int), (0 : Int),
                                      (0 : Int)]
                                    x.snd (0 : Int) =
                                  U.stlaw04_ShaBlocks_14 b x0.fst x0.snd.fst x0.snd.snd.fst x0.snd.snd.snd ∧
                                U.Ilaw04_ShaBlocks_14 b x0.fst x0.snd.fst x0.snd.snd.fst x0.snd.snd.snd x0.fst
                                  x0.snd.fst x0.snd.snd.fst x0.snd.snd.snd) ∧
                              ∀ (x_1 : List Int × List Int × Int × Int),
                                U.Ilaw04_ShaBlocks_14 b x0.fst x0.snd.fst x0.snd.snd.fst x0.snd.snd.snd x_1.fst
                                    x_1.snd.fst x_1.snd.snd.fst x_1.snd.snd.snd →
                                  bif decide (x_1.snd.snd.snd < (64 : Int)) then
                                    (0 : Int) ≤ IntKind.i64.wrap (x_1.snd.snd.fst.add x_1.snd.snd.snd) ∧
                                      IntKind.i64.wrap (x_1.snd.snd.fst.add x_1.snd.snd.snd) <
                                          (↑(U.pad b).length : Int) ∧
                                        (0 : Int) ≤ x_1.snd.snd.snd ∧
                                          x_1.snd.snd.snd < (↑(64 : Nat) : Int) ∧
                                            x_1.snd.snd.snd.toNat < (64 : Nat) ∧
                                              ∃ (y : List Int × List Int × Int × Int),
                                                U.stlaw04_ShaBlocks_14 b x_1.fst
                                                      (x_1.snd.fst.set x_1.snd.snd.snd.toNat
                                                        ((U.pad b).getD
                                                          (IntKind.i64.wrap (x_1.snd.snd.fst.add x_1.snd.snd.snd)).toNat
                                                          (0 : Int)))
                                                      x_1.snd.snd.fst
                                                      (IntKind.i64.wrap (x_1.snd.snd.snd.add (1 : Int))) =
                                                    U.stlaw04_ShaBlocks_14 b y.fst y.snd.fst y.snd.snd.fst
                                                      y.snd.snd.snd ∧
                                                  U.Ilaw04_ShaBlocks_14 b x0.fst x0.snd.fst x0.snd.snd.fst
                                                      x0.snd.snd.snd y.fst y.snd.fst y.snd.snd.fst y.snd.snd.snd ∧
                                                    Nat.sub (64 : Nat) y.snd.snd.snd.toNat <
                                                      Nat.sub (64 : Nat) x_1.snd.snd.snd.toNat
                                  else
                                    ∃ (y : List Int × Int),
                                      U.stlaw04_ShaBlocks_10 b
                                            (List.zipWith U.add32 x_1.fst
                                              (U.ls8 (U.rnds (U.sched x_1.snd.fst) (64 : Nat) (U.st8 x_1.fst))))
                                            (IntKind.i64.wrap (x_1.snd.snd.fst.add (64 : Int))) =
                                          U.stlaw04_ShaBlocks_10 b y.fst y.snd ∧
                                        U.Ilaw04_ShaBlocks_10 b y.fst y.snd ∧
                                          (U.pad b).length.sub y.snd.toNat < (U.pad b).length.sub x.snd.toNat
                        else
                          b.length ≤ (1000000000000 : Nat) ∧
                            ∃ (x0 : List Int × List Int × Int),
                              (U.stlaw04_ShaBlocks_20 b x.fst (U.sum b) (0 : Int) =
                                    U.stlaw04_ShaBlocks_20 b x0.fst x0.snd.fst x0.snd.snd ∧
                                  U.Ilaw04_ShaBlocks_20 b x0.fst x0.snd.fst x0.snd.snd) ∧
                                ∀ (x : List Int × List Int × Int),
                                  U.Ilaw04_ShaBlocks_20 b x.fst x.snd.fst x.snd.snd →
                                    bif decide (x.snd.snd < (32 : Int)) then
                                      (0 : Int) ≤ x.snd.snd ∧
                                        x.snd.snd < (↑(32 : Nat) : Int) ∧
                                          x.snd.snd.toNat < (32 : Nat) ∧
                                            (4 : Int) ≠ (0 : Int) ∧
                                              (0 : Int) ≤ IntKind.i64.wrap (x.snd.snd.tdiv (4 : Int)) ∧
                                                IntKind.i64.wrap (x.snd.snd.tdiv (4 : Int)) < (↑(8 : Nat) : Int) ∧
                                                  (IntKind.i64.wrap (x.snd.snd.tdiv (4 : Int))).toNat < (8 : Nat) ∧
                                                    (4 : Int) ≠ (0 : Int) ∧
                                                      (0 : Int) ≤
                                                          IntKind.u64.wrap
                                                            (IntKind.i64.wrap
                                                              (Int.sub (24 : Int)
                                                                (IntKind.i64.wrap
                                                                  (Int.mul (8 : Int) (x.snd.snd.tmod (4 : Int)))))) ∧
                                                        bif
                                                            x.snd.fst.getD x.snd.snd.toNat (0 : Int) !=
                                                              IntKind.u8.wrap
                                                                ((x.fst.getD
                                                                      (IntKind.i64.wrap
                                                                          (x.snd.snd.tdiv (4 : Int))).toNat
                                                                      (0 : Int)).fdiv
                                                                  (Int.pow (2 : Int)
                                                                    (if
                                                                        (IntKind.u64.wrap
                                                                              (IntKind.i64.wrap
                                                                                (Int.sub (24 : Int)
                                                                                  (IntKind.i64.wrap
                                                                                    (Int.mul (8 : Int)
                                                                                      (x.snd.snd.tmod
                                                                                        (4 : Int))))))).toNat ≤
                                                                          IntKind.u32.bits then
                                                                      (IntKind.u64.wrap
                                                                          (IntKind.i64.wrap
                                                                            (Int.sub (24 : Int)
                                                                              (IntKind.i64.wrap
                                                                                (Int.mul (8 : Int)
                                                                                  (x.snd.snd.tmod (4 : Int))))))).toNat
                                                                    else IntKind.u32.bits))) then
                                                          false = true ∧ True
                                                        else
                                                          ∃ (y : List Int × List Int × Int),
                                                            U.stlaw04_ShaBlocks_20 b x.fst x.snd.fst
                                                                  (IntKind.i64.wrap (x.snd.snd.add (1 : Int))) =
                                                                U.stlaw04_ShaBlocks_20 b y.fst y.snd.fst y.snd.snd ∧
                                                              U.Ilaw04_ShaBlocks_20 b y.fst y.snd.fst y.snd.snd ∧
                                                                Nat.sub (32 : Nat) y.snd.snd.toNat <
                                                                  Nat.sub (32 : Nat) x.snd.snd.toNat
                                    else true = true ∧ True
def vclaw04_ShaSums (b : List Int) : Prop :=
  bif decide ((↑b.length : Int) > (2000 : Int)) then true = true ∧ True
  else
    b.length ≤ (1000000000000 : Nat) ∧
      b.length ≤ (1000000000000 : Nat) ∧
        ((bif (U.sum b).beq (U.out32 (U.rsums b)) then (U.text (U.sum b)).beq (U.text (U.sum b)) else false) = true →
            b.length ≤ (1000000000000 : Nat)) ∧
          ((bif (U.sum b).beq (U.out32 (U.rsums b)) then (U.text (U.sum b)).beq (U.text (U.sum b)) else false) = true →
              b.length ≤ (1000000000000 : Nat)) ∧
            (bif bif (U.sum b).beq (U.out32 (U.rsums b)) then (U.text (U.sum b)).beq (U.text (U.sum b)) else false then
                  decide (U.pad b = U.pad b)
                else false) =
                true ∧
              True
def vclaw04_ShaSteps (h : List Int) (b : List Int) (s : List Int) : Prop :=
  (bif (List.zipWith U.add32 h (U.ls8 (U.rnds (U.sched b) (64 : Nat) (U.st8 h)))).beq (U.rstep h b U.consts) then
        (U.text s).beq (U.text s)
      else false) =
      true ∧
    True
end Go.Proofs.YtoecpaccpcnkcaaDoor
/- What is owed of the functions, proved in plain Lean. -/
set_option linter.unusedSimpArgs false
set_option linter.unusedVariables false
set_option maxRecDepth 100000
namespace Go.Proofs.YtoecpaccpcnkcaaDoor
open Go.Vc
open Go.Vc.T
theorem first_eq : U.first8 = shaFirst := by unfold U.first8; decide +kernel
theorem consts_eq : U.consts = shaRoots := by unfold U.consts; decide +kernel
theorem xor_bv (a b : Int) : U.xor32 a b = ((BitVec.ofInt 32 a ^^^ BitVec.ofInt 32 b).toNat : Int) := by
  show IntKind.wrap .u32 ((BitVec.ofInt 32 a ^^^ BitVec.ofInt 32 b).toNat : Int) = _
  rw [wrap_u32]; have := (BitVec.ofInt 32 a ^^^ BitVec.ofInt 32 b).isLt; omega
theorem and_bv (a b : Int) : U.and32 a b = ((BitVec.ofInt 32 a &&& BitVec.ofInt 32 b).toNat : Int) := by
  show IntKind.wrap .u32 ((BitVec.ofInt 32 a &&& BitVec.ofInt 32 b).toNat : Int) = _
  rw [wrap_u32]; have := (BitVec.ofInt 32 a &&& BitVec.ofInt 32 b).isLt; omega
theorem or_bv (a b : Int) : U.or32 a b = ((BitVec.ofInt 32 a ||| BitVec.ofInt 32 b).toNat : Int) := by
  show IntKind.wrap .u32 ((BitVec.ofInt 32 a ||| BitVec.ofInt 32 b).toNat : Int) = _
  rw [wrap_u32]; have := (BitVec.ofInt 32 a ||| BitVec.ofInt 32 b).isLt; omega
theorem bv_back (x : BitVec 32) : BitVec.ofInt 32 (x.toNat : Int) = x := by rw [BitVec.ofInt_natCast, BitVec.ofNat_toNat, BitVec.setWidth_eq]
theorem bv_ones : BitVec.ofInt 32 4294967295 = BitVec.allOnes 32 := by decide +kernel
theorem ch_eq (e f g : Int) : U.xor32 g (U.and32 e (U.xor32 f g)) = U.xor32 (U.and32 e f) (U.and32 (U.not32 e) g) := by
  show _ = U.xor32 (U.and32 e f) (U.and32 (U.xor32 4294967295 e) g)
  rw [xor_bv g, and_bv e (U.xor32 f g), xor_bv f g, xor_bv (U.and32 e f), and_bv e f, and_bv _ g, xor_bv 4294967295 e, bv_ones]
  simp only [bv_back]
  congr 2
  refine BitVec.eq_of_getLsbD_eq fun i hi => ?_
  simp only [BitVec.getLsbD_xor, BitVec.getLsbD_and, BitVec.getLsbD_allOnes, hi, decide_true]
  cases (BitVec.ofInt 32 e).getLsbD i <;> cases (BitVec.ofInt 32 f).getLsbD i <;> cases (BitVec.ofInt 32 g).getLsbD i <;> rfl
theorem maj_eq (a b c : Int) : U.or32 (U.and32 a b) (U.and32 c (U.or32 a b)) = U.xor32 (U.xor32 (U.and32 a b) (U.and32 a c)) (U.and32 b c) := by
  rw [or_bv (U.and32 a b), and_bv c, or_bv a b, xor_bv (U.xor32 _ _), xor_bv (U.and32 a b), and_bv a b, and_bv a c, and_bv b c]
  simp only [bv_back]
  congr 2
  refine BitVec.eq_of_getLsbD_eq fun i hi => ?_
  simp only [BitVec.getLsbD_xor, BitVec.getLsbD_and, BitVec.getLsbD_or]
  cases (BitVec.ofInt 32 a).getLsbD i <;> cases (BitVec.ofInt 32 b).getLsbD i <;> cases (BitVec.ofInt 32 c).getLsbD i <;> rfl
theorem right6 {x : Int} (h : 0 ≤ x ∧ x ≤ 4294967295) : U.right x 6 = U.rot x 6 := by
  have e1 : T.andK .u64 (IntKind.wrap .u64 (IntKind.wrap .i64 (Int.sub 0 6))) 31 = 26 := by decide +kernel
  have e2 : U.shl .u32 x 26 = 2 ^ 26 * (x % 64) := by
    show IntKind.wrap .u32 (x * 67108864) = _
    rw [wrap_u32]; omega
  have e3 : U.shr .u32 x 6 = x / 64 := by
    show Int.fdiv x 64 = _
    rw [Int.fdiv_eq_ediv_of_nonneg _ (by omega)]
  unfold U.right U.rotl
  simp only [e1]
  show T.orK .u32 (U.shl .u32 x 26) (U.shr .u32 x 6) = IntKind.wrap .u32 (U.shr .u32 x 6 + U.shl .u32 x 26)
  rw [e2, e3, or32_disj 26 (by omega) (by omega) (by omega) (by omega), wrap_u32]; omega
theorem right11 {x : Int} (h : 0 ≤ x ∧ x ≤ 4294967295) : U.right x 11 = U.rot x 11 := by
  have e1 : T.andK .u64 (IntKind.wrap .u64 (IntKind.wrap .i64 (Int.sub 0 11))) 31 = 21 := by decide +kernel
  have e2 : U.shl .u32 x 21 = 2 ^ 21 * (x % 2048) := by
    show IntKind.wrap .u32 (x * 2097152) = _
    rw [wrap_u32]; omega
  have e3 : U.shr .u32 x 11 = x / 2048 := by
    show Int.fdiv x 2048 = _
    rw [Int.fdiv_eq_ediv_of_nonneg _ (by omega)]
  unfold U.right U.rotl
  simp only [e1]
  show T.orK .u32 (U.shl .u32 x 21) (U.shr .u32 x 11) = IntKind.wrap .u32 (U.shr .u32 x 11 + U.shl .u32 x 21)
  rw [e2, e3, or32_disj 21 (by omega) (by omega) (by omega) (by omega), wrap_u32]; omega
theorem right25 {x : Int} (h : 0 ≤ x ∧ x ≤ 4294967295) : U.right x 25 = U.rot x 25 := by
  have e1 : T.andK .u64 (IntKind.wrap .u64 (IntKind.wrap .i64 (Int.sub 0 25))) 31 = 7 := by decide +kernel
  have e2 : U.shl .u32 x 7 = 2 ^ 7 * (x % 33554432) := by
    show IntKind.wrap .u32 (x * 128) = _
    rw [wrap_u32]; omega
  have e3 : U.shr .u32 x 25 = x / 33554432 := by
    show Int.fdiv x 33554432 = _
    rw [Int.fdiv_eq_ediv_of_nonneg _ (by omega)]
  unfold U.right U.rotl
  simp only [e1]
  show T.orK .u32 (U.shl .u32 x 7) (U.shr .u32 x 25) = IntKind.wrap .u32 (U.shr .u32 x 25 + U.shl .u32 x 7)
  rw [e2, e3, or32_disj 7 (by omega) (by omega) (by omega) (by omega), wrap_u32]; omega
theorem right2 {x : Int} (h : 0 ≤ x ∧ x ≤ 4294967295) : U.right x 2 = U.rot x 2 := by
  have e1 : T.andK .u64 (IntKind.wrap .u64 (IntKind.wrap .i64 (Int.sub 0 2))) 31 = 30 := by decide +kernel
  have e2 : U.shl .u32 x 30 = 2 ^ 30 * (x % 4) := by
    show IntKind.wrap .u32 (x * 1073741824) = _
    rw [wrap_u32]; omega
  have e3 : U.shr .u32 x 2 = x / 4 := by
    show Int.fdiv x 4 = _
    rw [Int.fdiv_eq_ediv_of_nonneg _ (by omega)]
  unfold U.right U.rotl
  simp only [e1]
  show T.orK .u32 (U.shl .u32 x 30) (U.shr .u32 x 2) = IntKind.wrap .u32 (U.shr .u32 x 2 + U.shl .u32 x 30)
  rw [e2, e3, or32_disj 30 (by omega) (by omega) (by omega) (by omega), wrap_u32]; omega
theorem right13 {x : Int} (h : 0 ≤ x ∧ x ≤ 4294967295) : U.right x 13 = U.rot x 13 := by
  have e1 : T.andK .u64 (IntKind.wrap .u64 (IntKind.wrap .i64 (Int.sub 0 13))) 31 = 19 := by decide +kernel
  have e2 : U.shl .u32 x 19 = 2 ^ 19 * (x % 8192) := by
    show IntKind.wrap .u32 (x * 524288) = _
    rw [wrap_u32]; omega
  have e3 : U.shr .u32 x 13 = x / 8192 := by
    show Int.fdiv x 8192 = _
    rw [Int.fdiv_eq_ediv_of_nonneg _ (by omega)]
  unfold U.right U.rotl
  simp only [e1]
  show T.orK .u32 (U.shl .u32 x 19) (U.shr .u32 x 13) = IntKind.wrap .u32 (U.shr .u32 x 13 + U.shl .u32 x 19)
  rw [e2, e3, or32_disj 19 (by omega) (by omega) (by omega) (by omega), wrap_u32]; omega
theorem right22 {x : Int} (h : 0 ≤ x ∧ x ≤ 4294967295) : U.right x 22 = U.rot x 22 := by
  have e1 : T.andK .u64 (IntKind.wrap .u64 (IntKind.wrap .i64 (Int.sub 0 22))) 31 = 10 := by decide +kernel
  have e2 : U.shl .u32 x 10 = 2 ^ 10 * (x % 4194304) := by
    show IntKind.wrap .u32 (x * 1024) = _
    rw [wrap_u32]; omega
  have e3 : U.shr .u32 x 22 = x / 4194304 := by
    show Int.fdiv x 4194304 = _
    rw [Int.fdiv_eq_ediv_of_nonneg _ (by omega)]
  unfold U.right U.rotl
  simp only [e1]
  show T.orK .u32 (U.shl .u32 x 10) (U.shr .u32 x 22) = IntKind.wrap .u32 (U.shr .u32 x 22 + U.shl .u32 x 10)
  rw [e2, e3, or32_disj 10 (by omega) (by omega) (by omega) (by omega), wrap_u32]; omega
theorem right7 {x : Int} (h : 0 ≤ x ∧ x ≤ 4294967295) : U.right x 7 = U.rot x 7 := by
  have e1 : T.andK .u64 (IntKind.wrap .u64 (IntKind.wrap .i64 (Int.sub 0 7))) 31 = 25 := by decide +kernel
  have e2 : U.shl .u32 x 25 = 2 ^ 25 * (x % 128) := by
    show IntKind.wrap .u32 (x * 33554432) = _
    rw [wrap_u32]; omega
  have e3 : U.shr .u32 x 7 = x / 128 := by
    show Int.fdiv x 128 = _
    rw [Int.fdiv_eq_ediv_of_nonneg _ (by omega)]
  unfold U.right U.rotl
  simp only [e1]
  show T.orK .u32 (U.shl .u32 x 25) (U.shr .u32 x 7) = IntKind.wrap .u32 (U.shr .u32 x 7 + U.shl .u32 x 25)
  rw [e2, e3, or32_disj 25 (by omega) (by omega) (by omega) (by omega), wrap_u32]; omega
theorem right18 {x : Int} (h : 0 ≤ x ∧ x ≤ 4294967295) : U.right x 18 = U.rot x 18 := by
  have e1 : T.andK .u64 (IntKind.wrap .u64 (IntKind.wrap .i64 (Int.sub 0 18))) 31 = 14 := by decide +kernel
  have e2 : U.shl .u32 x 14 = 2 ^ 14 * (x % 262144) := by
    show IntKind.wrap .u32 (x * 16384) = _
    rw [wrap_u32]; omega
  have e3 : U.shr .u32 x 18 = x / 262144 := by
    show Int.fdiv x 262144 = _
    rw [Int.fdiv_eq_ediv_of_nonneg _ (by omega)]
  unfold U.right U.rotl
  simp only [e1]
  show T.orK .u32 (U.shl .u32 x 14) (U.shr .u32 x 18) = IntKind.wrap .u32 (U.shr .u32 x 18 + U.shl .u32 x 14)
  rw [e2, e3, or32_disj 14 (by omega) (by omega) (by omega) (by omega), wrap_u32]; omega
theorem right17 {x : Int} (h : 0 ≤ x ∧ x ≤ 4294967295) : U.right x 17 = U.rot x 17 := by
  have e1 : T.andK .u64 (IntKind.wrap .u64 (IntKind.wrap .i64 (Int.sub 0 17))) 31 = 15 := by decide +kernel
  have e2 : U.shl .u32 x 15 = 2 ^ 15 * (x % 131072) := by
    show IntKind.wrap .u32 (x * 32768) = _
    rw [wrap_u32]; omega
  have e3 : U.shr .u32 x 17 = x / 131072 := by
    show Int.fdiv x 131072 = _
    rw [Int.fdiv_eq_ediv_of_nonneg _ (by omega)]
  unfold U.right U.rotl
  simp only [e1]
  show T.orK .u32 (U.shl .u32 x 15) (U.shr .u32 x 17) = IntKind.wrap .u32 (U.shr .u32 x 17 + U.shl .u32 x 15)
  rw [e2, e3, or32_disj 15 (by omega) (by omega) (by omega) (by omega), wrap_u32]; omega
theorem right19 {x : Int} (h : 0 ≤ x ∧ x ≤ 4294967295) : U.right x 19 = U.rot x 19 := by
  have e1 : T.andK .u64 (IntKind.wrap .u64 (IntKind.wrap .i64 (Int.sub 0 19))) 31 = 13 := by decide +kernel
  have e2 : U.shl .u32 x 13 = 2 ^ 13 * (x % 524288) := by
    show IntKind.wrap .u32 (x * 8192) = _
    rw [wrap_u32]; omega
  have e3 : U.shr .u32 x 19 = x / 524288 := by
    show Int.fdiv x 524288 = _
    rw [Int.fdiv_eq_ediv_of_nonneg _ (by omega)]
  unfold U.right U.rotl
  simp only [e1]
  show T.orK .u32 (U.shl .u32 x 13) (U.shr .u32 x 19) = IntKind.wrap .u32 (U.shr .u32 x 19 + U.shl .u32 x 13)
  rw [e2, e3, or32_disj 13 (by omega) (by omega) (by omega) (by omega), wrap_u32]; omega
theorem add32_v (a b : Int) : 0 ≤ U.add32 a b ∧ U.add32 a b ≤ 4294967295 := by unfold U.add32; rw [wrap_u32, int_add]; omega
theorem drop_getD (b : List Int) (n i : Nat) : (b.drop n).getD i 0 = b.getD (n + i) 0 := by
  rw [List.getD_eq_getElem?_getD, List.getD_eq_getElem?_getD, List.getElem?_drop]
theorem wp_word {b : List Int} (hb : ∀ x ∈ b, Valid (.int .u8) x) (t : Nat) : U.wp b t 4 = U.word (b.drop (4 * t)) ∧ 0 ≤ U.wp b t 4 ∧ U.wp b t 4 ≤ 4294967295 := by
  have h0 := u8_at hb (4 * t + 0)
  have h1 := u8_at hb (4 * t + 1)
  have h2 := u8_at hb (4 * t + 2)
  have h3 := u8_at hb (4 * t + 3)
  unfold U.word
  simp only [drop_getD, U.wp, U.add32, wrap_u32, int_add, int_mul]
  generalize b.getD (4 * t + 0) 0 = x0 at *
  generalize b.getD (4 * t + 1) 0 = x1 at *
  generalize b.getD (4 * t + 2) 0 = x2 at *
  generalize b.getD (4 * t + 3) 0 = x3 at *
  omega
def AllV (l : List Int) : Prop := ∀ x ∈ l, 0 ≤ x ∧ x ≤ 4294967295
theorem AllV.at {l : List Int} (h : AllV l) (i : Nat) : 0 ≤ l.getD i 0 ∧ l.getD i 0 ≤ 4294967295 := by
  by_cases hi : i < l.length
  · rw [getD_at hi]; exact h _ (List.getElem_mem hi)
  · rw [List.getD_eq_getElem?_getD, List.getElem?_eq_none (by omega)]; simp
theorem rnext_eq {l : List Int} (h : AllV l) : U.rnext l = U.wnext l := by
  unfold U.rnext U.wnext U.s0 U.s1
  rw [right17 (h.at _), right19 (h.at _), right7 (h.at _), right18 (h.at _)]
  simp only [U.add32, wrap_u32, int_add]; omega
theorem sched_eq {b : List Int} (hb : ∀ x ∈ b, Valid (.int .u8) x) : ∀ k, U.rschedN b k = U.schedN b k ∧ AllV (U.rschedN b k)
  | 0 => by
    refine ⟨?_, ?_⟩
    · show U.rs16 b 16 = U.sched16 b 16
      unfold U.rs16 U.sched16
      exact List.map_congr_left fun t _ => (wp_word hb t).1
    · intro x hx
      obtain ⟨t, _, rfl⟩ := List.mem_map.1 (show x ∈ (List.range 16).map fun t => U.wp b t 4 from hx)
      exact (wp_word hb t).2
  | k + 1 => by
    obtain ⟨h1, h2⟩ := sched_eq hb k
    refine ⟨by rw [U.rschedN, U.schedN, rnext_eq h2, h1], ?_⟩
    intro x hx
    rw [U.rschedN, List.mem_append] at hx
    rcases hx with hx | hx
    · exact h2 x hx
    · rw [List.mem_singleton] at hx; subst hx; unfold U.rnext; exact add32_v _ _
theorem rnd_eq (k w : Int) (s : U.St8) (h : AllV (U.ls8 s)) : U.rrnd k w (U.ls8 s) = U.ls8 (U.rnd k w s) := by
  obtain ⟨a, b, c, d, e, f, g, i⟩ := s
  have ha : 0 ≤ a ∧ a ≤ 4294967295 := h a (by simp [U.ls8])
  have he : 0 ≤ e ∧ e ≤ 4294967295 := h e (by simp [U.ls8])
  have h1 : U.rt1 k w [a, b, c, d, e, f, g, i] = U.one k w (a, b, c, d, e, f, g, i) := by
    show U.add32 (U.add32 (U.add32 (U.add32 i (U.xor32 (U.xor32 (U.rot e 6) (U.rot e 11)) (U.rot e 25))) (U.xor32 (U.and32 e f) (U.and32 (U.not32 e) g))) k) w = U.add32 (U.add32 (U.add32 (U.add32 i (U.S1 e)) (U.xor32 g (U.and32 e (U.xor32 f g)))) k) w
    rw [ch_eq]; unfold U.S1; rw [right6 he, right11 he, right25 he]
  have h2 : U.rt2 [a, b, c, d, e, f, g, i] = U.two (a, b, c, d, e, f, g, i) := by
    show U.add32 (U.xor32 (U.xor32 (U.rot a 2) (U.rot a 13)) (U.rot a 22)) (U.xor32 (U.xor32 (U.and32 a b) (U.and32 a c)) (U.and32 b c)) = U.add32 (U.S0 a) (U.or32 (U.and32 a b) (U.and32 c (U.or32 a b)))
    rw [maj_eq]; unfold U.S0; rw [right2 ha, right13 ha, right22 ha]
  show [U.add32 (U.rt1 k w [a, b, c, d, e, f, g, i]) (U.rt2 [a, b, c, d, e, f, g, i]), a, b, c, U.add32 d (U.rt1 k w [a, b, c, d, e, f, g, i]), e, f, g] = [U.add32 (U.one k w (a, b, c, d, e, f, g, i)) (U.two (a, b, c, d, e, f, g, i)), a, b, c, U.add32 d (U.one k w (a, b, c, d, e, f, g, i)), e, f, g]
  rw [h1, h2]
theorem rnd_v (k w : Int) (s : U.St8) (h : AllV (U.ls8 s)) : AllV (U.ls8 (U.rnd k w s)) := by
  obtain ⟨a, b, c, d, e, f, g, i⟩ := s
  intro x hx
  have hx : x ∈ [U.add32 (U.one k w (a, b, c, d, e, f, g, i)) (U.two (a, b, c, d, e, f, g, i)), a, b, c, U.add32 d (U.one k w (a, b, c, d, e, f, g, i)), e, f, g] := hx
  have hm : ∀ y ∈ [a, b, c, d, e, f, g, i], 0 ≤ y ∧ y ≤ 4294967295 := h
  simp only [List.mem_cons, List.not_mem_nil, or_false] at hx hm
  rcases hx with rfl | rfl | rfl | rfl | rfl | rfl | rfl | rfl
  · exact add32_v _ _
  · exact hm _ (by simp)
  · exact hm _ (by simp)
  · exact hm _ (by simp)
  · exact add32_v _ _
  · exact hm _ (by simp)
  · exact hm _ (by simp)
  · exact hm _ (by simp)
theorem rnds_eq (w : List Int) (s : U.St8) (h : AllV (U.ls8 s)) : ∀ t, U.rrnds shaRoots w t (U.ls8 s) = U.ls8 (U.rnds w t s) ∧ AllV (U.ls8 (U.rnds w t s))
  | 0 => ⟨rfl, h⟩
  | t + 1 => by
    obtain ⟨h1, h2⟩ := rnds_eq w s h t
    refine ⟨?_, rnd_v _ _ _ h2⟩
    rw [U.rrnds, h1]; exact rnd_eq _ _ _ h2
theorem ls8_st8 {h : List Int} (h8 : h.length = 8) : U.ls8 (U.st8 h) = h := by
  match h, h8 with
  | [_, _, _, _, _, _, _, _], _ => rfl
theorem zip_comm (f : Int → Int → Int) (hf : ∀ a b, f a b = f b a) : ∀ a b : List Int, List.zipWith f a b = List.zipWith f b a
  | [], [] => rfl
  | [], _ :: _ => rfl
  | _ :: _, [] => rfl
  | x :: a, y :: b => by rw [List.zipWith_cons_cons, List.zipWith_cons_cons, hf, zip_comm f hf a b]
theorem step_eq {h b : List Int} (h8 : h.length = 8) (hv : AllV h) (hb : ∀ x ∈ b, Valid (.int .u8) x) : U.rstep h b U.consts = U.step h b ∧ (U.step h b).length = 8 ∧ AllV (U.step h b) := by
  have hs : U.rsched b = U.sched b := by unfold U.rsched U.sched; exact (sched_eq hb 48).1
  have hr := (rnds_eq (U.sched b) (U.st8 h) (by rw [ls8_st8 h8]; exact hv) 64).1
  rw [ls8_st8 h8] at hr
  refine ⟨?_, ?_, ?_⟩
  · unfold U.rstep U.step
    rw [consts_eq, hs, hr]
    exact zip_comm _ (fun a b => by unfold U.add32; rw [int_add, int_add, Int.add_comm]) _ _
  · unfold U.step; rw [List.length_zipWith, h8]; rfl
  · intro x hx
    unfold U.step at hx
    obtain ⟨i, hi, rfl⟩ := List.mem_iff_getElem.1 hx
    rw [List.getElem_zipWith]; exact add32_v _ _
theorem be8_byte : ∀ k n, ∀ x ∈ U.be8 k n, 0 ≤ x ∧ x ≤ 255 := by
  intro k n
  induction k with
  | zero => intro x hx; cases hx
  | succ k ih =>
    intro x hx
    rw [U.be8, List.mem_cons] at hx
    rcases hx with rfl | hx
    · omega
    · exact ih x hx
theorem pad_v {b : List Int} (hb : ∀ x ∈ b, Valid (.int .u8) x) : ∀ x ∈ U.pad b, Valid (.int .u8) x := by
  intro x hx
  unfold U.pad at hx
  rw [List.mem_append, List.mem_cons, List.mem_append] at hx
  have hv : 0 ≤ x ∧ x ≤ 255 → Valid (.int .u8) x := fun h => ⟨by show (0 : Int) ≤ x; omega, by show x ≤ (255 : Int); omega⟩
  rcases hx with hx | rfl | hx | hx
  · exact hb x hx
  · exact hv (by omega)
  · rw [(List.mem_replicate.1 hx).2]; exact ⟨by show (0 : Int) ≤ 0; omega, by show (0 : Int) ≤ (255 : Int); omega⟩
  · exact hv (be8_byte _ _ x hx)
theorem fold_eq : ∀ (cs : List (List Int)) (h : List Int), h.length = 8 → AllV h → (∀ c ∈ cs, ∀ x ∈ c, Valid (.int .u8) x) → cs.foldl (fun h c => U.rstep h c U.consts) h = cs.foldl U.step h
  | [], _, _, _, _ => rfl
  | c :: r, h, h8, hv, hc => by
    obtain ⟨e1, e2, e3⟩ := step_eq h8 hv (hc c (List.mem_cons_self ..))
    rw [List.foldl_cons, List.foldl_cons, e1]
    exact fold_eq r _ e2 e3 fun d hd => hc d (List.mem_cons_of_mem _ hd)
theorem first_v : AllV shaFirst := by
  have : shaFirst.all (fun x => decide (0 ≤ x ∧ x ≤ 4294967295)) = true := by decide +kernel
  intro x hx
  have := List.all_eq_true.1 this x hx
  simpa using this
theorem sums_eq {b : List Int} (hb : ∀ x ∈ b, Valid (.int .u8) x) : U.rsums b = U.sums b := by
  unfold U.rsums U.sums
  rw [first_eq]
  refine fold_eq _ _ rfl first_v fun c hc x hx => ?_
  unfold U.chunks at hc
  obtain ⟨k, _, rfl⟩ := List.mem_map.1 hc
  exact pad_v hb x (List.mem_of_mem_drop (List.mem_of_mem_take hx))
theorem oklaw04_ShaSums (b : List Int) (hb : ∀ x ∈ b, Valid (.int .u8) x) : vclaw04_ShaSums b := by
  unfold vclaw04_ShaSums
  simp only [cond_prop, decide_eq_true_eq, decide_eq_false_iff_not]
  refine ⟨fun _ => ⟨trivial, trivial⟩, fun hn => ⟨by omega, by omega, fun _ => by omega, fun _ => by omega, ?_, trivial⟩⟩
  rw [sums_eq hb]
  have e1 : (U.sum b).beq (U.out32 (U.sums b)) = true := by rw [list_beq, beq_iff_eq]; rfl
  have e2 : (U.text (U.sum b)).beq (U.text (U.sum b)) = true := by rw [list_beq, beq_iff_eq]
  rw [e1, e2]; simp
theorem oklaw04_ShaSteps (h b s : List Int) (hh : Valid tW8 h) (hb : Valid tK64 b) : vclaw04_ShaSteps h b s := by
  unfold vclaw04_ShaSteps
  have hst := step_eq hh.2 (fun x hx => vU32 (hh.1 x hx)) hb.1
  refine ⟨?_, trivial⟩
  have e1 : (List.zipWith U.add32 h (U.ls8 (U.rnds (U.sched b) 64 (U.st8 h)))).beq (U.rstep h b U.consts) = true := by rw [list_beq, beq_iff_eq, hst.1]; rfl
  have e2 : (U.text s).beq (U.text s) = true := by rw [list_beq, beq_iff_eq]
  rw [e1, e2]; rfl
theorem oklaw04_ShaBlocks (b : List Int) (hb : ∀ x ∈ b, Valid (.int .u8) x) : vclaw04_ShaBlocks b := by
  unfold vclaw04_ShaBlocks
  have hp := pad_len b
  have hz := zeros_lt b.length
  have hc : (U.chunks 64 (U.pad b)).length * 64 = (U.pad b).length := by rw [chunks_len]; omega
  rw [Int.tmod_eq_emod_of_nonneg (show 0 ≤ ((U.pad b).length : Int) by omega), show ((((U.pad b).length : Int) % 64 != 0)) = false by rw [bne_eq_false_iff_eq]; omega]
  simp only [cond_prop, cond_false, int_add, nat_sub, U.Ilaw04_ShaBlocks_10, U.Ilaw04_ShaBlocks_14, U.Ilaw04_ShaBlocks_20, decide_eq_true_eq, decide_eq_false_iff_not]
  refine ⟨fun _ => ⟨trivial, trivial⟩, fun hn => ⟨by omega, by omega, fun _ => by omega, fun _ => by omega, fun _ => by omega, fun h => ?_, fun _ => ⟨(_, 0), ⟨rfl, by simp, by simp, 0, by simp, first_eq⟩, ?_⟩⟩⟩
  · have e1 : decide (((U.pad b).length : Int) ≤ b.length) = false := by rw [decide_eq_false_iff_not]; omega
    have e2 : (List.take (((b.length : Int)).toNat - Int.toNat 0) (List.drop (Int.toNat 0) (U.pad b))).beq b = true := by
      rw [list_beq, beq_iff_eq, show Int.toNat 0 = 0 from rfl, List.drop_zero, show ((b.length : Int)).toNat - 0 = b.length by omega]
      unfold U.pad; exact List.take_left
    rw [e1, e2] at h; cases h
  rintro ⟨h, i⟩ ⟨h0, h1, k, hk, hh⟩
  simp only [] at *
  refine ⟨fun hlt => ?_, fun hge => ?_⟩
  · have hkc : k < (U.chunks 64 (U.pad b)).length := by omega
    refine ⟨(_, _, _, 0), ⟨rfl, trivial, trivial, h0, by show i + 64 ≤ _; omega, by simp, by simp, rfl⟩, ?_⟩
    rintro ⟨h', bl, i', j⟩ ⟨e1, e2, h2, h3, h4, h5, hbl⟩
    simp only [] at *
    subst e1 e2
    have hdl : ((U.pad b).drop i'.toNat).length = (U.pad b).length - i'.toNat := List.length_drop
    refine ⟨fun hj => ?_, fun hj => ?_⟩
    · have hw : IntKind.i64.wrap (j + 1) = j + 1 := by rw [wrap_i64]; omega
      have hw2 : IntKind.i64.wrap (i' + j) = i' + j := by rw [wrap_i64]; omega
      rw [hw, hw2]
      refine ⟨by omega, by omega, by omega, by omega, by omega, (_, _, _, j + 1), rfl, ⟨rfl, rfl, h2, h3, by show 0 ≤ j + 1; omega, by show j + 1 ≤ 64; omega, ?_⟩, by show 64 - (j + 1).toNat < 64 - j.toNat; omega⟩
      show bl.set j.toNat ((U.pad b).getD (i' + j).toNat 0) = U.pad64 64 (((U.pad b).drop i'.toNat).take (j + 1).toNat)
      have hl : (((U.pad b).drop i'.toNat).take j.toNat).length = j.toNat := by rw [List.length_take]; omega
      have := @pad64_set 64 (((U.pad b).drop i'.toNat).take j.toNat) ((U.pad b).getD (i' + j).toNat 0) (by omega)
      rw [hl] at this
      rw [hbl, this, show (j + 1).toNat = j.toNat + 1 by omega, List.take_succ_eq_append_getElem (by omega), ← getD_at (d := 0) (by omega), drop_getD, show i'.toNat + j.toNat = (i' + j).toNat by omega]
    · have hw : IntKind.i64.wrap (i' + 64) = i' + 64 := by rw [wrap_i64]; omega
      have hbl : bl = (U.chunks 64 (U.pad b)).getD k [] := by
        rw [hbl, chunks_at hkc, show j.toNat = 64 by omega, show i'.toNat = k * 64 by omega]
        unfold U.pad64
        rw [List.length_take, List.length_drop, show 64 - min 64 ((U.pad b).length - k * 64) = 0 by omega]; simp
      rw [hw]
      refine ⟨(_, i' + 64), rfl, ⟨by show 0 ≤ i' + 64; omega, by show i' + 64 ≤ _; omega, k + 1, by show i' + 64 = _; push_cast; omega, ?_⟩, by show _ - (i' + 64).toNat < _; omega⟩
      show U.step h' bl = _
      rw [List.take_succ_eq_append_getElem hkc, List.foldl_append, ← hh, hbl, getD_at hkc]; rfl
  · have hk : k = (U.chunks 64 (U.pad b)).length := by omega
    have hI : h = U.sums b := by rw [hh, hk, List.take_length]; rfl
    refine ⟨by omega, (_, _, 0), ⟨rfl, hI, rfl, by simp, by simp⟩, ?_⟩
    rintro ⟨h, s, k⟩ ⟨hh, hs, h0, h1⟩
    simp only [] at *
    refine ⟨fun ht => ?_, fun _ => ⟨trivial, trivial⟩⟩
    have hw : IntKind.i64.wrap (k + 1) = k + 1 := by rw [wrap_i64]; omega
    have h4 : IntKind.i64.wrap (Int.tdiv k 4) = k / 4 := by rw [Int.tdiv_eq_ediv_of_nonneg (by omega), wrap_i64]; omega
    have h5 : IntKind.u64.wrap (IntKind.i64.wrap (Int.sub 24 (IntKind.i64.wrap (Int.mul 8 (Int.tmod k 4))))) = 24 - 8 * (k % 4) := by
      rw [Int.tmod_eq_emod_of_nonneg (by omega)]; simp only [wrap_i64, wrap_u64, int_sub, int_mul]; omega
    have h6 : (if (24 - 8 * (k % 4)).toNat ≤ IntKind.u32.bits then (24 - 8 * (k % 4)).toNat else IntKind.u32.bits) = 24 - 8 * (k.toNat % 4) := by
      rw [if_pos (by show _ ≤ 32; omega)]; omega
    rw [hw, h4, h5, h6]
    have hs2 : s.getD k.toNat 0 = IntKind.u8.wrap ((h.getD (k / 4).toNat 0).fdiv (Int.pow 2 (24 - 8 * (k.toNat % 4)))) := by
      rw [hs]; unfold U.sum
      rw [out32_at _ (by omega), hh, show (k / 4).toNat = k.toNat / 4 by omega]
      unfold U.shr
      rw [show min (24 - 8 * (k.toNat % 4)) IntKind.u32.bits = 24 - 8 * (k.toNat % 4) by show min _ 32 = _; omega]
    rw [hs2]
    refine ⟨by omega, by omega, by omega, by omega, by omega, by omega, by omega, by omega, by omega, fun hne => ?_, fun _ => ⟨(_, _, k + 1), rfl, ⟨hh, hs, by show 0 ≤ k + 1; omega, by show k + 1 ≤ 32; omega⟩, by show 32 - (k + 1).toNat < 32 - k.toNat; omega⟩⟩
    simp at hne
end Go.Proofs.YtoecpaccpcnkcaaDoor
/- The functions' summaries hold of the program. -/
set_option linter.unusedSimpArgs false
set_option maxRecDepth 100000
set_option linter.unusedVariables false
namespace Go.Proofs.YtoecpaccpcnkcaaDoor
open Go.Vc
end Go.Proofs.YtoecpaccpcnkcaaDoor
