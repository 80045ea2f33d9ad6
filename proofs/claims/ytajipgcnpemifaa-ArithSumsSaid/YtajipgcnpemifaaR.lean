/- The laws: those that hold, hold; those that do not, have witnesses. -/
import Derived.Test.YtajipgcnpemifaaN
import Derived.Test.YtajipgcnpemifaaO
namespace Go.Proofs.Ytajipgcnpemifaa
open Ieee Go.RowKit

theorem sidesb_lt (k x y z : Nat) (hx : x < 2 ^ 64) (hy : y < 2 ^ 64) (hz : z < 2 ^ 64) : (sidesb k x y z).1 < 2 ^ 64 ∧ (sidesb k x y z).2 < 2 ^ 64 := by
  unfold sidesb
  split <;> (refine ⟨?_, ?_⟩ <;> (try dsimp only) <;> (repeat (first | exact hx | exact hy | exact hz | (refine dob_lt _ _ _ ?_ ?_) | exact of_decide_eq_true rfl)))

theorem canonb_fop (op : BinOp) (x y : Nat) : canonb (fop op x y) = fop op x y := by
  unfold fop
  cases h : floatBits op .f64 x y with
  | none => decide
  | some r => exact canonb_num (some_num h).1
theorem canon_cases (x : Nat) (hx : x < 2 ^ 64) : (nanq (canonb x) = true ∧ canonb x = nanb) ∨ (nanq (canonb x) = false ∧ canonb x = x ∧ nanq x = false) := by
  cases h : nanq x
  · rw [canonb_num h]; exact .inr ⟨h, rfl, rfl⟩
  · rw [canonb_nan h]; exact .inl ⟨by decide, rfl⟩

/-- A clean number. -/
def Clean (x : Nat) : Prop := x < 2 ^ 64 ∧ canonb x = x
theorem Clean.cases {x : Nat} (h : Clean x) : x = nanb ∨ nanq x = false := by
  cases hn : nanq x
  · exact .inr rfl
  · have := h.2; rw [canonb_nan hn] at this; exact .inl this.symm
theorem clean_canon (x : Nat) (hx : x < 2 ^ 64) : Clean (canonb x) := ⟨canonb_lt x hx, canonb_canonb x⟩

theorem same1 (x y : Nat) : dob 2 x y = dob 2 y x := by show fop .add x y = fop .add y x; unfold fop; rw [bits_add, bits_add, add_comm]
theorem same2 (x y : Nat) : dob 4 x y = dob 4 y x := by show fop .mul x y = fop .mul y x; unfold fop; rw [bits_mul, bits_mul, mul_comm]
theorem same3 (x y : Nat) (hx : x < 2 ^ 64) (hy : y < 2 ^ 64) : dob 6 x y = dob 6 y x := by
  show canonb (leastb x y) = canonb (leastb y x); rw [leastb_comm x y hx hy]
theorem same4 (x y : Nat) (hx : x < 2 ^ 64) (hy : y < 2 ^ 64) : dob 7 x y = dob 7 y x := by
  show canonb (turned (leastb (turned x) (turned y))) = canonb (turned (leastb (turned y) (turned x)))
  rw [leastb_comm _ _ (turned_lt x hx) (turned_lt y hy)]
theorem same5 (x : Nat) (h : Clean x) : dob 4 x 4607182418800017408 = x := by
  show fop .mul x 4607182418800017408 = x
  rcases h.cases with e | e
  · rw [fop_nan_left _ _ _ (by rw [e]; decide), e]
  · exact fop_some (by rw [bits_mul, mul_unit x _ false h.1 e read_one, if_neg (by decide)])
theorem same6 (x : Nat) (h : Clean x) : dob 5 x 4607182418800017408 = x := by
  show fop .quo x 4607182418800017408 = x
  rcases h.cases with e | e
  · rw [fop_nan_left _ _ _ (by rw [e]; decide), e]
  · exact fop_some (by rw [bits_quo, div_one x h.1 e])
theorem add_low (x : Nat) (h : Clean x) : fop .add x 9223372036854775808 = x := by
  rcases h.cases with e | e
  · rw [fop_nan_left _ _ _ (by rw [e]; decide), e]
  · exact fop_some (by rw [bits_add, add_zero x _ h.1 (.inr rfl) e, if_neg (by omega)])
theorem sub_add (x y : Nat) (hy : y < 2 ^ 64) : fop .sub x y = fop .add x (turned y) := by
  unfold fop; rw [bits_sub, bits_add, sub_eq x y hy]
theorem same7 (x : Nat) (h : Clean x) : dob 3 x 0 = x := by
  show fop .sub x 0 = x
  rw [sub_add x 0 (by decide)]; exact add_low x h
theorem same8 (x : Nat) (h : Clean x) : dob 2 x 9223372036854775808 = x := add_low x h
theorem canon_turned (x : Nat) (hx : x < 2 ^ 64) (h : nanq x = false) : canonb (turned x) = turned x := canonb_num (by rw [nanq_turned x hx, h])
theorem same9 (x : Nat) (h : Clean x) : dob 1 (dob 1 x 0) 0 = x := by
  show canonb (turned (canonb (turned x))) = x
  rcases h.cases with e | e
  · rw [e]; decide
  · rw [canon_turned x h.1 e, turned_turned x h.1, canonb_num e]
theorem same10 (x y : Nat) (hy : y < 2 ^ 64) : dob 3 x y = dob 2 x (dob 1 y 0) := by
  show fop .sub x y = fop .add x (canonb (turned y))
  rw [sub_add x y hy]
  cases e : nanq y
  · rw [canon_turned y hy e]
  · rw [fop_nan_right _ _ _ (by rw [nanq_turned y hy, e]), fop_nan_right _ _ _ (by rw [canonb_nan (by rw [nanq_turned y hy, e])]; decide)]
theorem same11 (x : Nat) (h : Clean x) : dob 6 x x = x := by
  show canonb (leastb x x) = x
  rcases h.cases with e | e
  · rw [e]; decide
  · rw [leastb_self x e, h.2]
theorem same22 (x : Nat) (h : Clean x) : dob 6 x 9218868437227405312 = x := by
  show canonb (leastb x 9218868437227405312) = x
  rcases h.cases with e | e
  · rw [e]; decide
  · rw [leastb_inf x h.1 e, h.2]
theorem same23 (x : Nat) (h : Clean x) : dob 4 x 13830554455654793216 = dob 1 x 0 := by
  show fop .mul x 13830554455654793216 = canonb (turned x)
  rcases h.cases with e | e
  · rw [e, fop_nan_left _ _ _ (by decide)]; decide
  · rw [canon_turned x h.1 e]
    exact fop_some (by rw [bits_mul, mul_unit x _ true h.1 e read_minus_one, if_pos rfl])

theorem law_same (j : Nat) (hj : j < 24) (hh : holdsb j = true) (x y z : Nat) (hx : Clean x) (hy : Clean y) (hz : Clean z) : (sidesb (j + 1) x y z).1 = (sidesb (j + 1) x y z).2 := by
  match j, hj, hh with
  | 0, _, _ => exact same1 x y
  | 1, _, _ => exact same2 x y
  | 2, _, _ => exact same3 x y hx.1 hy.1
  | 3, _, _ => exact same4 x y hx.1 hy.1
  | 4, _, _ => exact same5 x hx
  | 5, _, _ => exact same6 x hx
  | 6, _, _ => exact same7 x hx
  | 7, _, _ => exact same8 x hx
  | 8, _, _ => exact same9 x hx
  | 9, _, _ => exact same10 x y hy.1
  | 10, _, _ => exact same11 x hx
  | 21, _, _ => exact same22 x hx
  | 22, _, _ => exact same23 x hx
  | 11, _, h => exact absurd h (by decide)
  | 12, _, h => exact absurd h (by decide)
  | 13, _, h => exact absurd h (by decide)
  | 14, _, h => exact absurd h (by decide)
  | 15, _, h => exact absurd h (by decide)
  | 16, _, h => exact absurd h (by decide)
  | 17, _, h => exact absurd h (by decide)
  | 18, _, h => exact absurd h (by decide)
  | 19, _, h => exact absurd h (by decide)
  | 20, _, h => exact absurd h (by decide)
  | 23, _, h => exact absurd h (by decide)
  | j + 24, h, _ => omega

def differs (j : Nat) : Bool := !(canonb (sidesb (j + 1) (canonb (witb j).1) (canonb (witb j).2.1) (canonb (witb j).2.2)).1 == canonb (sidesb (j + 1) (canonb (witb j).1) (canonb (witb j).2.1) (canonb (witb j).2.2)).2)
theorem df11 : differs 11 = true := by kernel_rfl
theorem df12 : differs 12 = true := by kernel_rfl
theorem df13 : differs 13 = true := by kernel_rfl
theorem df14 : differs 14 = true := by kernel_rfl
theorem df15 : differs 15 = true := by kernel_rfl
theorem df16 : differs 16 = true := by kernel_rfl
theorem df17 : differs 17 = true := by kernel_rfl
theorem df18 : differs 18 = true := by kernel_rfl
theorem df19 : differs 19 = true := by kernel_rfl
theorem df20 : differs 20 = true := by kernel_rfl
theorem df23 : differs 23 = true := by kernel_rfl
theorem law_differs (j : Nat) (hj : j < 24) (hh : holdsb j = false) : differs j = true := by
  match j, hj, hh with
  | 0, _, h => exact absurd h (by decide)
  | 1, _, h => exact absurd h (by decide)
  | 2, _, h => exact absurd h (by decide)
  | 3, _, h => exact absurd h (by decide)
  | 4, _, h => exact absurd h (by decide)
  | 5, _, h => exact absurd h (by decide)
  | 6, _, h => exact absurd h (by decide)
  | 7, _, h => exact absurd h (by decide)
  | 8, _, h => exact absurd h (by decide)
  | 9, _, h => exact absurd h (by decide)
  | 10, _, h => exact absurd h (by decide)
  | 21, _, h => exact absurd h (by decide)
  | 22, _, h => exact absurd h (by decide)
  | 11, _, _ => exact df11
  | 12, _, _ => exact df12
  | 13, _, _ => exact df13
  | 14, _, _ => exact df14
  | 15, _, _ => exact df15
  | 16, _, _ => exact df16
  | 17, _, _ => exact df17
  | 18, _, _ => exact df18
  | 19, _, _ => exact df19
  | 20, _, _ => exact df20
  | 23, _, _ => exact df23
  | j + 24, h, _ => omega

theorem wit_lt (j : Nat) : (witb j).1 < 2 ^ 64 ∧ (witb j).2.1 < 2 ^ 64 ∧ (witb j).2.2 < 2 ^ 64 := by
  unfold witb
  split <;> exact ⟨by decide, by decide, by decide⟩

/-- How many of the first laws hold. -/
def howMany (j : Nat) : Nat := ((List.range j).filter holdsb).length
theorem howMany_succ (j : Nat) : howMany (j + 1) = howMany j + if holdsb j then 1 else 0 := by
  unfold howMany
  rw [List.range_succ, List.filter_append, List.length_append]
  congr 1
  cases h : holdsb j <;> simp [List.filter_cons, h]
theorem howMany_le (j : Nat) : howMany j ≤ j := by
  unfold howMany
  have := List.length_filter_le holdsb (List.range j)
  simpa using this
theorem howMany_all : howMany 24 = 13 := by decide
end Go.Proofs.Ytajipgcnpemifaa
