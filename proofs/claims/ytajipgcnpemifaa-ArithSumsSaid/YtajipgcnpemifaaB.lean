/- What is written of a word that is read is that word. -/
import Derived.Test.YtajipgcnpemifaaA
namespace Go.Proofs.Ytajipgcnpemifaa
open Ieee

theorem cut_zero (neg : Bool) (n : Nat) : Toward.even.cut neg n 0 = n := by
  unfold Toward.cut
  simp [Nat.mod_one]

theorem double_sign : double.signWeight = 9223372036854775808 := by decide
theorem double_binade : double.binade = 4503599627370496 := by decide
theorem double_inf : double.infRung = 9218868437227405312 := by decide
theorem double_least : double.leastPlace = -1074 := by decide
theorem double_frac : double.fractionBits = 52 := rfl

theorem nearest_exact (neg : Bool) (mag : Nat) (place : Int) (r : Nat) (hm : mag ≠ 0) (hp : double.leastPlace ≤ place) (hl : place + mag.log2 - 52 ≤ place) (h : place = double.leastPlace ∨ mag.log2 = 52)
    (hr : (place - double.leastPlace).toNat * double.binade + mag = r) (hi : r ≤ double.infRung) : double.nearest neg mag place = double.word neg r := by
  unfold Format.nearest
  rw [if_neg hm]
  have e : max (place + mag.log2 - double.fractionBits) double.leastPlace = place := by
    rw [double_frac]
    rcases h with h | h
    · rw [← h]; omega
    · rw [h]; omega
  simp only [e]
  rw [show (place - place).toNat = 0 by omega, Nat.shiftLeft_zero, cut_zero, hr, Nat.min_eq_left hi]

theorem write_read (x : Nat) (hx : x < 2 ^ 64) : double.write (double.read x) = x := by
  have hS := double_sign
  have hB := double_binade
  have hI := double_inf
  obtain ⟨rung, hrung⟩ : ∃ r, r = x % double.signWeight := ⟨_, rfl⟩
  obtain ⟨neg, hneg⟩ : ∃ b, b = (x / double.signWeight % 2 == 1) := ⟨_, rfl⟩
  have hw : double.word neg rung = x := by
    unfold Format.word
    rw [hneg, hrung]
    rw [hS] at *
    by_cases h : x / 9223372036854775808 % 2 = 1
    · simp only [h, beq_self_eq_true, if_true]; omega
    · rw [if_neg (by simpa using h)]; omega
  have hlt : rung < double.signWeight := by rw [hrung, hS]; exact Nat.mod_lt _ (by decide)
  unfold Format.read
  simp only [← hrung, ← hneg]
  by_cases h1 : rung < double.binade
  · rw [if_pos h1]
    show double.nearest neg rung double.leastPlace = x
    by_cases h0 : rung = 0
    · unfold Format.nearest
      rw [if_pos h0, ← h0]
      exact hw
    · have hlg : rung.log2 < 53 := (Nat.log2_lt h0).2 (by rw [hB] at h1; omega)
      have hlg2 : rung.log2 < 52 := (Nat.log2_lt h0).2 (by rw [hB] at h1; omega)
      rw [nearest_exact neg rung double.leastPlace rung h0 (by omega) (by omega) (.inl rfl) (by simp) (by rw [hI, hB] at *; omega)]
      exact hw
  · rw [if_neg h1]
    by_cases h2 : rung < double.infRung
    · rw [if_pos h2]
      show double.nearest neg (double.binade + rung % double.binade) _ = x
      have hmod : rung % double.binade < double.binade := Nat.mod_lt _ (by rw [hB]; decide)
      have hlg : (double.binade + rung % double.binade).log2 = 52 := by
        have a : (double.binade + rung % double.binade).log2 < 53 := (Nat.log2_lt (by rw [hB]; omega)).2 (by rw [hB] at *; omega)
        have b : ¬ (double.binade + rung % double.binade).log2 < 52 := fun h => by
          have := (Nat.log2_lt (by rw [hB]; omega)).1 h
          rw [hB] at this
          omega
        omega
      rw [nearest_exact neg _ _ rung (by rw [hB]; omega) (by omega) (by rw [hlg]; omega) (.inr hlg) (by
        rw [show (double.leastPlace + ((rung / double.binade - 1 : Nat) : Int) - double.leastPlace).toNat = rung / double.binade - 1 by omega]
        rw [hB] at *
        omega) (by omega)]
      exact hw
    · rw [if_neg h2]
      by_cases h3 : rung = double.infRung
      · rw [if_pos h3]
        show double.word neg double.infRung = x
        rw [← h3]
        exact hw
      · rw [if_neg h3]
        show double.word neg (double.infRung + (rung - double.infRung) % double.binade) = x
        rw [Nat.mod_eq_of_lt (by rw [hS] at hlt; rw [hI, hB] at *; omega), show double.infRung + (rung - double.infRung) = rung by omega]
        exact hw
end Go.Proofs.Ytajipgcnpemifaa
