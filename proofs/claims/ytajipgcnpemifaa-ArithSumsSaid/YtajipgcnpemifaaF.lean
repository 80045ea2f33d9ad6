/- Sums and products of numbers by their bits. -/
import Derived.Test.YtajipgcnpemifaaE
namespace Go.Proofs.Ytajipgcnpemifaa
open Ieee

def srnd (t : Int) : Int := if t < 0 then -(rnd t.natAbs : Int) else rnd t.natAbs

theorem srnd_mono (s t : Int) (h : s ≤ t) : srnd s ≤ srnd t := by
  unfold srnd
  by_cases a : s < 0
  · rw [if_pos a]
    by_cases b : t < 0
    · rw [if_pos b]
      have := rnd_mono t.natAbs s.natAbs (by omega)
      omega
    · rw [if_neg b]; omega
  · rw [if_neg a, if_neg (by omega)]
    have := rnd_mono s.natAbs t.natAbs (by omega)
    omega

theorem rnd_le (n : Nat) : rnd n ≤ 9218868437227405312 := by unfold rnd; exact Nat.min_le_right _ _

theorem word_eq (neg : Bool) (r : Nat) : double.word neg r = if neg then 9223372036854775808 + r else r := by
  unfold Format.word; rw [double_sign]

theorem word_srung (neg : Bool) (r : Nat) (h : r < 9223372036854775808) : srung (double.word neg r) = sval neg r := by
  rw [word_eq]; unfold srung sval
  cases neg
  · simp; rw [if_neg (by omega)]; omega
  · simp; omega
theorem word_rung (neg : Bool) (r : Nat) (h : r < 9223372036854775808) : double.word neg r % 9223372036854775808 = r := by
  rw [word_eq]; split <;> omega
theorem word_neg (neg : Bool) (r : Nat) (h : r < 9223372036854775808) : negq (double.word neg r) = neg := by
  rw [word_eq]; unfold negq; cases neg <;> simp <;> omega
theorem word_fin (neg : Bool) (r : Nat) (h : r < 9218868437227405312) : finq (double.word neg r) = true := by
  unfold finq; rw [word_rung _ _ (by omega)]; exact decide_eq_true h
theorem word_nan (neg : Bool) (r : Nat) (h : r ≤ 9218868437227405312) : nanq (double.word neg r) = false := by
  unfold nanq; rw [word_rung _ _ (by omega)]; exact decide_eq_false (by omega)
theorem word_small (neg : Bool) (r : Nat) (h : r < 9223372036854775808) : double.word neg r < 2 ^ 64 := by
  rw [word_eq]; split <;> omega
theorem word_of (x : Nat) (hx : x < 2 ^ 64) : double.word (negq x) (x % 9223372036854775808) = x := by
  rw [word_eq]; unfold negq
  by_cases h : 9223372036854775808 ≤ x
  · simp [h]; omega
  · simp [h]; omega

/-- What a finite number is worth in least units. -/
def units (x : Nat) : Int := sval (negq x) (uval (x % 9223372036854775808))

theorem natAbs_scale (a b : Int) (k : Nat) (h : b = a * (k : Int)) : b.natAbs = a.natAbs * k := by
  rw [h, Int.natAbs_mul]; rfl

/-- The sum of two finite numbers. -/
theorem add_fin (x y : Nat) (hx : x < 2 ^ 64) (hy : y < 2 ^ 64) (fx : finq x = true) (fy : finq y = true) :
    double.add x y = some (double.word (if units x + units y = 0 then negq x && negq y else decide (units x + units y < 0)) (rnd (units x + units y).natAbs)) := by
  obtain ⟨m, k, e1, u1⟩ := read_fin x hx fx
  obtain ⟨n, j, e2, u2⟩ := read_fin y hy fy
  unfold Format.add
  rw [e1, e2]
  obtain ⟨c, hc⟩ : ∃ c, c = min k j := ⟨_, rfl⟩
  have hb : min (-1074 + (k : Int)) (-1074 + (j : Int)) = -1074 + (c : Int) := by omega
  have s1 := scaled (negq x) m k c (by omega)
  have s2 := scaled (negq y) n j c (by omega)
  rw [u1] at s1
  rw [u2] at s2
  simp only [Datum.sum, Option.map_some, Format.write, hb]
  obtain ⟨a, ha⟩ : ∃ a, a = signed (negq x) m (-1074 + (k : Int) - (-1074 + (c : Int))).toNat := ⟨_, rfl⟩
  obtain ⟨b, hb'⟩ : ∃ b, b = signed (negq y) n (-1074 + (j : Int) - (-1074 + (c : Int))).toNat := ⟨_, rfl⟩
  rw [← ha] at s1
  rw [← hb'] at s2
  rw [← ha, ← hb']
  have hk : (0 : Int) < ((2 ^ c : Nat) : Int) := by have := Nat.two_pow_pos c; omega
  have ht : units x + units y = (a + b) * ((2 ^ c : Nat) : Int) := by unfold units; rw [Int.add_mul, s1, s2]
  rw [ht, nearest_units _ _ _ (by omega), show (-1074 + (c : Int) + 1074).toNat = c by omega, natAbs_scale (a + b) _ (2 ^ c) rfl]
  congr 2
  have z : (a + b) * ((2 ^ c : Nat) : Int) = 0 ↔ a + b = 0 := ⟨fun h => by
    rcases Int.mul_eq_zero.1 h with h | h
    · exact h
    · omega, fun h => by rw [h, Int.zero_mul]⟩
  have l : (a + b) * ((2 ^ c : Nat) : Int) < 0 ↔ a + b < 0 := ⟨fun h => by
    by_cases c : a + b < 0
    · exact c
    · have := Int.mul_nonneg (show 0 ≤ a + b by omega) (Int.le_of_lt hk)
      omega, fun h => by
    have := Int.mul_lt_mul_of_pos_right h hk
    rw [Int.zero_mul] at this
    exact this⟩
  by_cases h0 : a + b = 0
  · rw [if_pos h0, if_pos (z.2 h0)]
  · rw [if_neg h0, if_neg (fun h => h0 (z.1 h))]
    exact decide_eq_decide.2 l.symm

theorem add_fin_srung (x y : Nat) (hx : x < 2 ^ 64) (hy : y < 2 ^ 64) (fx : finq x = true) (fy : finq y = true) :
    ∃ r, double.add x y = some r ∧ r < 2 ^ 64 ∧ nanq r = false ∧ srung r = srnd (units x + units y) := by
  have hr := rnd_le (units x + units y).natAbs
  refine ⟨_, add_fin x y hx hy fx fy, word_small _ _ (by omega), word_nan _ _ hr, ?_⟩
  rw [word_srung _ _ (by omega)]
  unfold srnd sval
  by_cases h0 : units x + units y = 0
  · rw [if_pos h0, h0]
    have : rnd (Int.natAbs 0) = 0 := by decide
    rw [this, if_neg (Int.lt_irrefl 0)]; split <;> rfl
  · rw [if_neg h0]
    by_cases h1 : units x + units y < 0
    · rw [if_pos h1]; simp [h1]
    · rw [if_neg h1]; simp [h1]

theorem units_mono (x y : Nat) (h : srung x ≤ srung y) : units x ≤ units y := by
  rw [srung_eq, srung_eq] at h
  unfold units
  have h1 := uval_lt_iff (x % 9223372036854775808) (y % 9223372036854775808)
  have h2 := uval_lt_iff (y % 9223372036854775808) (x % 9223372036854775808)
  have h3 : x % 9223372036854775808 = y % 9223372036854775808 → uval (x % 9223372036854775808) = uval (y % 9223372036854775808) := fun h => by rw [h]
  have zx : x % 9223372036854775808 = 0 → uval (x % 9223372036854775808) = 0 := fun h => by rw [h]; rfl
  have zy : y % 9223372036854775808 = 0 → uval (y % 9223372036854775808) = 0 := fun h => by rw [h]; rfl
  revert h
  unfold sval
  cases negq x <;> cases negq y <;> simp <;> omega

/-- What is added keeps the order. -/
theorem add_mono (x y z : Nat) (hx : x < 2 ^ 64) (hy : y < 2 ^ 64) (hz : z < 2 ^ 64) (fx : finq x = true) (fy : finq y = true) (fz : finq z = true) (h : srung x ≤ srung y) :
    ∃ p q, double.add x z = some p ∧ double.add y z = some q ∧ p < 2 ^ 64 ∧ q < 2 ^ 64 ∧ nanq p = false ∧ nanq q = false ∧ srung p ≤ srung q := by
  obtain ⟨p, e1, l1, n1, s1⟩ := add_fin_srung x z hx hz fx fz
  obtain ⟨q, e2, l2, n2, s2⟩ := add_fin_srung y z hy hz fy fz
  refine ⟨p, q, e1, e2, l1, l2, n1, n2, ?_⟩
  rw [s1, s2]
  exact srnd_mono _ _ (by have := units_mono x y h; omega)

theorem write_word (x : Nat) (hx : x < 2 ^ 64) (fx : finq x = true) : rnd (uval (x % 9223372036854775808)) = x % 9223372036854775808 := by
  obtain ⟨m, k, e1, u1⟩ := read_fin x hx fx
  have h := write_read x hx
  rw [e1] at h
  have h2 : double.nearest (negq x) m (-1074 + (k : Int)) = x := h
  rw [nearest_units _ _ _ (by omega), show (-1074 + (k : Int) + 1074).toNat = k by omega, u1] at h2
  have := word_rung (negq x) (rnd (uval (x % 9223372036854775808))) (by have := rnd_le (uval (x % 9223372036854775808)); omega)
  rw [h2] at this
  exact this.symm

/-- What a zero is added to stays, but of -0 and 0 it is 0. -/
theorem add_zero (x z : Nat) (hx : x < 2 ^ 64) (hz : z = 0 ∨ z = 9223372036854775808) (nx : nanq x = false) :
    double.add x z = some (if x % 9223372036854775808 = 0 ∧ z = 0 then 0 else x) := by
  have fz : finq z = true := by rcases hz with h | h <;> subst h <;> decide
  have hz' : z < 2 ^ 64 := by omega
  by_cases fx : finq x = true
  · rw [add_fin x z hx hz' fx fz]
    have uz : units z = 0 := by rcases hz with h | h <;> subst h <;> rfl
    rw [uz, Int.add_zero]
    have hw := word_of x hx
    have hww := write_word x hx fx
    have ha : (units x).natAbs = uval (x % 9223372036854775808) := by unfold units sval; split <;> omega
    rw [ha, hww]
    congr 1
    by_cases h0 : x % 9223372036854775808 = 0
    · have u0 : units x = 0 := by unfold units sval; rw [h0, uval_zero]; split <;> rfl
      rw [if_pos u0]
      rcases hz with h | h
      · subst h
        rw [if_pos ⟨h0, rfl⟩, h0]
        have : negq 0 = false := by decide
        rw [this, Bool.and_false]; rfl
      · subst h
        rw [if_neg (by omega)]
        have : negq 9223372036854775808 = true := by decide
        rw [this, Bool.and_true]; exact hw
    · have p : 0 < uval (x % 9223372036854775808) := by have := @uval_mono 0 (x % 9223372036854775808) (by omega); rw [uval_zero] at this; exact this
      have u0 : units x ≠ 0 := by unfold units sval; split <;> omega
      rw [if_neg u0, if_neg (by omega)]
      have : decide (units x < 0) = negq x := by
        unfold units sval
        cases negq x <;> simp <;> omega
      rw [this]; exact hw
  · have fx : finq x = false := by simpa using fx
    obtain ⟨n, j, e2, u2⟩ := read_fin z hz' fz
    have hi := read_inf x hx nx fx
    have hw := write_read x hx
    unfold Format.add
    rw [hi] at hw
    rw [hi, e2]
    show some (double.write (.infinity (negq x))) = _
    rw [hw, if_neg]
    unfold finq at fx
    have fx := of_decide_eq_false fx
    omega
end Go.Proofs.Ytajipgcnpemifaa
