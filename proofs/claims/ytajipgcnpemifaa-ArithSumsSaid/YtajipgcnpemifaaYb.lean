/- The edges: what comes of NaN, of infinite numbers and of zeros. -/
import Derived.Test.YtajipgcnpemifaaX
namespace Go.Proofs.Ytajipgcnpemifaa
open Ieee

def zeroq (x : Nat) : Bool := decide (x % 9223372036854775808 = 0)

theorem canonb_dob (j x y : Nat) (hx : x < 2 ^ 64) (hy : y < 2 ^ 64) : canonb (dob j x y) = dob j x y := by
  unfold dob
  split
  · exact canonb_canonb _
  · exact canonb_fop' _ _ _
  · exact canonb_fop' _ _ _
  · exact canonb_fop' _ _ _
  · exact canonb_fop' _ _ _
  · exact canonb_canonb _
  · exact canonb_canonb _
  · decide
where
  canonb_fop' (op : BinOp) (x y : Nat) : canonb (fop op x y) = fop op x y := canonb_fop op x y

theorem dob_nan_left (j x y : Nat) (hx : x < 2 ^ 64) (hy : y < 2 ^ 64) (h1 : 1 ≤ j) (h7 : j ≤ 7) (n : nanq x = true) : dob j x y = nanb := by
  match j, h1, h7 with
  | 1, _, _ => exact dob1_nan x y hx n
  | 2, _, _ => exact fop_nan_left .add x y n
  | 3, _, _ => exact fop_nan_left .sub x y n
  | 4, _, _ => exact fop_nan_left .mul x y n
  | 5, _, _ => exact fop_nan_left .quo x y n
  | 6, _, _ => exact dob6_nan x y (.inl n)
  | 7, _, _ => exact dob7_nan x y hx hy (.inl n)
theorem dob_nan_right (j x y : Nat) (hx : x < 2 ^ 64) (hy : y < 2 ^ 64) (h1 : 1 < j) (h7 : j ≤ 7) (n : nanq y = true) : dob j x y = nanb := by
  match j, h1, h7 with
  | 2, _, _ => exact fop_nan_right .add x y n
  | 3, _, _ => exact fop_nan_right .sub x y n
  | 4, _, _ => exact fop_nan_right .mul x y n
  | 5, _, _ => exact fop_nan_right .quo x y n
  | 6, _, _ => exact dob6_nan x y (.inr n)
  | 7, _, _ => exact dob7_nan x y hx hy (.inr n)

theorem dob_canon (j x y : Nat) (hx : x < 2 ^ 64) (hy : y < 2 ^ 64) (h1 : 1 ≤ j) (h7 : j ≤ 7) : dob j x y = dob j (canonb x) (canonb y) := by
  have cx := canonb_lt x hx
  have cy := canonb_lt y hy
  rcases nan_cases x with nx | nx
  · rw [dob_nan_left j x y hx hy h1 h7 nx, dob_nan_left j _ _ cx cy h1 h7 (by rw [canonb_nan nx]; decide)]
  rw [canonb_num nx]
  rcases nan_cases y with ny | ny
  · by_cases e : j = 1
    · subst e; exact (show dob 1 x y = canonb (turned x) from rfl).trans (show canonb (turned x) = dob 1 x (canonb y) from rfl)
    · rw [dob_nan_right j x y hx hy (by omega) h7 ny, dob_nan_right j _ _ hx cy (by omega) h7 (by rw [canonb_nan ny]; decide)]
  · rw [canonb_num ny]

theorem nearest_neg (s : Bool) (m : Nat) (p : Int) : negq (double.nearest s m p) = s ∧ nanq (double.nearest s m p) = false := by
  unfold Format.nearest
  by_cases hm : m = 0
  · rw [if_pos hm]; exact ⟨word_neg s 0 (by omega), word_nan s 0 (by omega)⟩
  · rw [if_neg hm]
    refine ⟨word_neg s _ (Nat.lt_of_le_of_lt (Nat.min_le_right _ _) ?_), word_nan s _ (Nat.le_trans (Nat.min_le_right _ _) ?_)⟩
    · rw [double_inf]; omega
    · rw [double_inf]; omega
theorem inf_neg (s : Bool) : negq (double.word s double.infRung) = s ∧ nanq (double.word s double.infRung) = false :=
  ⟨word_neg s _ (by rw [double_inf]; omega), word_nan s _ (by rw [double_inf]; omega)⟩

/-- What a number that is none is not read as. -/
theorem read_cases (x : Nat) (hx : x < 2 ^ 64) (n : nanq x = false) :
    (infq x = true ∧ zeroq x = false ∧ double.read x = .infinity (negq x)) ∨
    (infq x = false ∧ ∃ M p, double.read x = .number (negq x) M p ∧ (zeroq x = decide (M = 0))) := by
  cases hi : infq x
  · right
    have fx := fin_of n hi
    obtain ⟨M, k, e, u⟩ := read_fin x hx fx
    refine ⟨rfl, M, _, e, ?_⟩
    unfold zeroq
    refine decide_eq_decide.2 ⟨fun h => ?_, fun h => ?_⟩
    · rw [h, uval_zero] at u
      rcases Nat.mul_eq_zero.1 u with h | h
      · exact h
      · have := Nat.two_pow_pos k; omega
    · rw [h, Nat.zero_mul] at u
      exact (uval_inj (u.symm.trans uval_zero.symm))
  · left
    have h := of_decide_eq_true hi
    refine ⟨rfl, ?_, read_inf x hx n ?_⟩
    · unfold zeroq; exact decide_eq_false (by omega)
    · unfold finq; exact decide_eq_false (by omega)

theorem mul_edges (x y : Nat) (hx : x < 2 ^ 64) (hy : y < 2 ^ 64) (nx : nanq x = false) (ny : nanq y = false) :
    nanq (dob 4 x y) = (infq x && zeroq y || zeroq x && infq y) ∧ (nanq (dob 4 x y) = false → negq (dob 4 x y) = (negq x != negq y)) := by
  have none_case : double.mul x y = none → dob 4 x y = nanb := fun h => by
    show fop .mul x y = nanb
    unfold fop; rw [bits_mul, h]; rfl
  have some_case : ∀ r, double.mul x y = some r → dob 4 x y = r := fun r h => fop_some (by rw [bits_mul, h])
  rcases read_cases x hx nx with ⟨ix, zx, ex⟩ | ⟨ix, M, p, ex, zx⟩ <;> rcases read_cases y hy ny with ⟨iy, zy, ey⟩ | ⟨iy, N, q, ey, zy⟩
  · have h := some_case (double.word (negq x ^^ negq y) double.infRung) (by unfold Format.mul; rw [ex, ey]; rfl)
    rw [h, ix, iy, zx, zy]
    have := inf_neg (negq x ^^ negq y)
    exact ⟨by rw [this.2] <;> rfl, fun _ => by rw [this.1] <;> cases negq x <;> cases negq y <;> rfl⟩
  · by_cases hN : N = 0
    · rw [none_case (by unfold Format.mul; rw [ex, ey]; simp only [Datum.product, hN, if_true]; rfl), ix, iy, zx, zy, decide_eq_true hN]
      exact ⟨by decide, fun h => absurd h (by decide)⟩
    · have h := some_case (double.word (negq x ^^ negq y) double.infRung) (by unfold Format.mul; rw [ex, ey]; simp only [Datum.product, hN, if_false]; rfl)
      rw [h, ix, iy, zx, zy, decide_eq_false hN]
      have := inf_neg (negq x ^^ negq y)
      exact ⟨by rw [this.2] <;> rfl, fun _ => by rw [this.1] <;> cases negq x <;> cases negq y <;> rfl⟩
  · by_cases hM : M = 0
    · rw [none_case (by unfold Format.mul; rw [ex, ey]; simp only [Datum.product, hM, if_true]; rfl), ix, iy, zx, zy, decide_eq_true hM]
      exact ⟨by decide, fun h => absurd h (by decide)⟩
    · have h := some_case (double.word (negq y ^^ negq x) double.infRung) (by unfold Format.mul; rw [ex, ey]; simp only [Datum.product, hM, if_false]; rfl)
      rw [h, ix, iy, zx, zy, decide_eq_false hM]
      have := inf_neg (negq y ^^ negq x)
      exact ⟨by rw [this.2] <;> rfl, fun _ => by rw [this.1] <;> cases negq x <;> cases negq y <;> rfl⟩
  · have h := some_case (double.nearest (negq x ^^ negq y) (M * N) (p + q)) (by unfold Format.mul; rw [ex, ey]; rfl)
    rw [h, ix, iy]
    have := nearest_neg (negq x ^^ negq y) (M * N) (p + q)
    exact ⟨by rw [this.2]; simp, fun _ => by rw [this.1] <;> cases negq x <;> cases negq y <;> rfl⟩

theorem div_edges (x y : Nat) (hx : x < 2 ^ 64) (hy : y < 2 ^ 64) (nx : nanq x = false) (ny : nanq y = false) :
    nanq (dob 5 x y) = (infq x && infq y || zeroq x && zeroq y) ∧ (nanq (dob 5 x y) = false → negq (dob 5 x y) = (negq x != negq y)) := by
  have none_case : double.div x y = none → dob 5 x y = nanb := fun h => by
    show fop .quo x y = nanb
    unfold fop; rw [bits_quo, h]; rfl
  have some_case : ∀ r, double.div x y = some r → dob 5 x y = r := fun r h => fop_some (by rw [bits_quo, h])
  rcases read_cases x hx nx with ⟨ix, zx, ex⟩ | ⟨ix, M, p, ex, zx⟩ <;> rcases read_cases y hy ny with ⟨iy, zy, ey⟩ | ⟨iy, N, q, ey, zy⟩
  · rw [none_case (by unfold Format.div; rw [ex, ey]; rfl), ix, iy]
    exact ⟨by rw [nanb_nan] <;> rfl, fun h => absurd h (by decide)⟩
  · have h := some_case (double.word (negq x ^^ negq y) double.infRung) (by unfold Format.div; rw [ex, ey]; rfl)
    rw [h, ix, iy, zx]
    have := inf_neg (negq x ^^ negq y)
    exact ⟨by rw [this.2] <;> rfl, fun _ => by rw [this.1] <;> cases negq x <;> cases negq y <;> rfl⟩
  · have h := some_case (double.nearest (negq x ^^ negq y) 0 0) (by unfold Format.div; rw [ex, ey]; rfl)
    rw [h, ix, iy, zy]
    have := nearest_neg (negq x ^^ negq y) 0 0
    exact ⟨by rw [this.2]; simp, fun _ => by rw [this.1] <;> cases negq x <;> cases negq y <;> rfl⟩
  · by_cases hN : N = 0
    · by_cases hM : M = 0
      · rw [none_case (by unfold Format.div; rw [ex, ey]; simp only [Datum.quotient, hN, hM, if_true]; rfl), ix, iy, zx, zy, decide_eq_true hN, decide_eq_true hM]
        exact ⟨by decide, fun h => absurd h (by decide)⟩
      · have h := some_case (double.word (negq x ^^ negq y) double.infRung) (by unfold Format.div; rw [ex, ey]; simp only [Datum.quotient, hN, hM, if_true, if_false]; rfl)
        rw [h, ix, iy, zx, zy, decide_eq_false hM]
        have := inf_neg (negq x ^^ negq y)
        exact ⟨by rw [this.2] <;> rfl, fun _ => by rw [this.1] <;> cases negq x <;> cases negq y <;> rfl⟩
    · obtain ⟨r1, r2, hq⟩ : ∃ r1 r2, (Datum.number (negq x) M p).quotient (double.fractionBits + 2) (.number (negq y) N q) = some (.number (negq x ^^ negq y) r1 r2) := by
        simp only [Datum.quotient, hN, if_false]
        exact ⟨_, _, rfl⟩
      have h := some_case (double.nearest (negq x ^^ negq y) r1 r2) (by unfold Format.div; rw [ex, ey, hq]; rfl)
      rw [h, ix, iy, zx, zy, decide_eq_false hN]
      have := nearest_neg (negq x ^^ negq y) r1 r2
      exact ⟨by rw [this.2]; simp, fun _ => by rw [this.1] <;> cases negq x <;> cases negq y <;> rfl⟩

/-- Sums at the edges. -/
theorem add_edges (x y : Nat) (hx : x < 2 ^ 64) (hy : y < 2 ^ 64) (nx : nanq x = false) (ny : nanq y = false) :
    nanq (dob 2 x y) = (infq x && infq y && (FloatKind.f64.format.order x y != some .eq)) ∧ (infq x = true → nanq (dob 2 x y) = false → dob 2 x y = x) ∧ (zeroq y = true → zeroq x = false → dob 2 x y = x) := by
  have none_case : double.add x y = none → dob 2 x y = nanb := fun h => by
    show fop .add x y = nanb
    unfold fop; rw [bits_add, h]; rfl
  have some_case : ∀ r, double.add x y = some r → dob 2 x y = r := fun r h => fop_some (by rw [bits_add, h])
  have hz : zeroq y = true → zeroq x = false → dob 2 x y = x := fun hy0 hx0 => by
    unfold zeroq at hy0 hx0
    have a := of_decide_eq_true hy0
    have b := of_decide_eq_false hx0
    have c := add_zero x y hx (by omega) nx
    rw [if_neg (by omega)] at c
    exact some_case x c
  refine ⟨?_, ?_, hz⟩
  · rcases read_cases x hx nx with ⟨ix, zx, ex⟩ | ⟨ix, M, p, ex, zx⟩ <;> rcases read_cases y hy ny with ⟨iy, zy, ey⟩ | ⟨iy, N, q, ey, zy⟩
    · rw [ix, iy]
      have eo : FloatKind.f64.format.order x y = some (compare (negq y).toNat (negq x).toNat) := by
        show double.order x y = _
        unfold Format.order; rw [ex, ey]; rfl
      by_cases hs : negq x = negq y
      · have h := some_case (double.word (negq x) double.infRung) (by unfold Format.add; rw [ex, ey]; simp only [Datum.sum, hs, if_true]; rfl)
        rw [h, (inf_neg _).2, eo, hs]
        cases negq y <;> rfl
      · rw [none_case (by unfold Format.add; rw [ex, ey]; simp only [Datum.sum, hs, if_false]; rfl), eo]
        revert hs
        cases negq x <;> cases negq y <;> simp <;> decide
    · have h := some_case (double.word (negq x) double.infRung) (by unfold Format.add; rw [ex, ey]; rfl)
      rw [h, (inf_neg _).2, ix, iy]; rfl
    · have h := some_case (double.word (negq y) double.infRung) (by unfold Format.add; rw [ex, ey]; rfl)
      rw [h, (inf_neg _).2, ix]; rfl
    · obtain ⟨s, r1, r2, hq⟩ : ∃ s r1 r2, (Datum.number (negq x) M p).sum (.number (negq y) N q) = some (.number s r1 r2) := ⟨_, _, _, rfl⟩
      have h := some_case (double.nearest s r1 r2) (by unfold Format.add; rw [ex, ey, hq]; rfl)
      rw [h, (nearest_neg _ _ _).2, ix]; rfl
  · intro ix hn
    rcases read_cases x hx nx with ⟨_, zx, ex⟩ | ⟨ix', _⟩
    · have hw := write_read x hx
      rw [ex] at hw
      have hw' : double.word (negq x) double.infRung = x := hw
      rcases read_cases y hy ny with ⟨iy, zy, ey⟩ | ⟨iy, N, q, ey, zy⟩
      · by_cases hs : negq x = negq y
        · exact some_case x (by unfold Format.add; rw [ex, ey]; simp only [Datum.sum, hs, if_true]; rw [← hs]; show some (double.word (negq x) double.infRung) = _; rw [hw'])
        · rw [none_case (by unfold Format.add; rw [ex, ey]; simp only [Datum.sum, hs, if_false]; rfl)] at hn
          exact absurd hn (by decide)
      · exact some_case x (by unfold Format.add; rw [ex, ey]; show some (double.word (negq x) double.infRung) = _; rw [hw'])
    · rw [ix] at ix'; cases ix'
end Go.Proofs.Ytajipgcnpemifaa
