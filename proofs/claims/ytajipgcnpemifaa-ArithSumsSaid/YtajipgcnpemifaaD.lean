/- Rounding: what is nearest depends on the value alone; in units of the least place it is one function of a natural number, and that function keeps the order. -/
import Derived.Test.YtajipgcnpemifaaC
namespace Go.Proofs.Ytajipgcnpemifaa
open Ieee

theorem cut_eq (neg : Bool) (n d : Nat) : Toward.even.cut neg n d =
    n / 2 ^ min d (n.log2 + 2) + (decide (2 ^ min d (n.log2 + 2) < 2 * (n % 2 ^ min d (n.log2 + 2))) || (2 ^ min d (n.log2 + 2) == 2 * (n % 2 ^ min d (n.log2 + 2)) && n / 2 ^ min d (n.log2 + 2) % 2 == 1)).toNat := by
  unfold Toward.cut
  simp only [Nat.one_shiftLeft]

theorem log2_mul_pow (m k : Nat) (hm : m ≠ 0) : (m * 2 ^ k).log2 = m.log2 + k := by
  have h2 : 0 < 2 ^ k := Nat.two_pow_pos k
  have hne : m * 2 ^ k ≠ 0 := Nat.mul_ne_zero hm (Nat.pos_iff_ne_zero.1 h2)
  have a : 2 ^ m.log2 ≤ m := Nat.log2_self_le hm
  have b : m < 2 ^ (m.log2 + 1) := Nat.lt_log2_self
  have c : (m * 2 ^ k).log2 < m.log2 + k + 1 := (Nat.log2_lt hne).2 (by
    rw [show m.log2 + k + 1 = (m.log2 + 1) + k by omega, Nat.pow_add]
    exact Nat.mul_lt_mul_of_pos_right b h2)
  have d : ¬ (m * 2 ^ k).log2 < m.log2 + k := fun h => by
    have := (Nat.log2_lt hne).1 h
    rw [Nat.pow_add] at this
    have := Nat.mul_le_mul_right (2 ^ k) a
    omega
  omega

theorem cut_scale (neg : Bool) (m k d : Nat) (hm : m ≠ 0) : Toward.even.cut neg (m * 2 ^ k) (d + k) = Toward.even.cut neg m d := by
  have h2 : 0 < 2 ^ k := Nat.two_pow_pos k
  rw [cut_eq, cut_eq, log2_mul_pow m k hm]
  rw [show min (d + k) (m.log2 + k + 2) = min d (m.log2 + 2) + k by omega]
  obtain ⟨g, hg⟩ : ∃ g, g = min d (m.log2 + 2) := ⟨_, rfl⟩
  rw [← hg, Nat.pow_add]
  rw [Nat.mul_div_mul_right m (2 ^ g) h2, Nat.mul_mod_mul_right (2 ^ k) m (2 ^ g)]
  congr 2
  congr 1
  · rw [← Nat.mul_assoc]
    exact decide_eq_decide.2 (Nat.mul_lt_mul_right h2)
  · congr 1
    rw [← Nat.mul_assoc, Bool.eq_iff_iff]
    simp only [beq_iff_eq]
    exact ⟨fun h => Nat.eq_of_mul_eq_mul_right h2 h, fun h => congrArg (· * 2 ^ k) h⟩

theorem cut_none (neg : Bool) (n : Nat) : Toward.even.cut neg n 0 = n := cut_zero neg n

theorem nearest_scale (neg : Bool) (m k : Nat) (p : Int) : double.nearest neg (m * 2 ^ k) (p - k) = double.nearest neg m p := by
  by_cases hm : m = 0
  · subst hm; simp [Format.nearest]
  · have h2 : 0 < 2 ^ k := Nat.two_pow_pos k
    have hne : m * 2 ^ k ≠ 0 := Nat.mul_ne_zero hm (Nat.pos_iff_ne_zero.1 h2)
    unfold Format.nearest
    rw [if_neg hm, if_neg hne, log2_mul_pow m k hm]
    simp only []
    rw [show p - (k : Int) + ((m.log2 + k : Nat) : Int) - (double.fractionBits : Int) = p + m.log2 - double.fractionBits by omega]
    obtain ⟨l, hl⟩ : ∃ l, l = max (p + (m.log2 : Int) - double.fractionBits) double.leastPlace := ⟨_, rfl⟩
    rw [← hl]
    congr 3
    rw [Nat.shiftLeft_eq, Nat.shiftLeft_eq]
    by_cases h1 : l ≤ p
    · by_cases h3 : l ≤ p - k
      · rw [show (l - (p - k)).toNat = 0 by omega, show (l - p).toNat = 0 by omega, cut_none, cut_none, Nat.mul_assoc, ← Nat.pow_add]
        congr 2
        omega
      · rw [show (p - k - l).toNat = 0 by omega, Nat.pow_zero, Nat.mul_one, show (l - p).toNat = 0 by omega]
        obtain ⟨a, ha⟩ : ∃ a, a = (p - l).toNat := ⟨_, rfl⟩
        rw [← ha, show (l - (p - k)).toNat = k - a by omega]
        have hk : k = a + (k - a) := by omega
        rw [show m * 2 ^ k = (m * 2 ^ a) * 2 ^ (k - a) by rw [Nat.mul_assoc, ← Nat.pow_add, ← hk]]
        have := cut_scale neg (m * 2 ^ a) (k - a) 0 (Nat.mul_ne_zero hm (Nat.pos_iff_ne_zero.1 (Nat.two_pow_pos a)))
        rw [Nat.zero_add] at this
        exact this
    · rw [show (p - k - l).toNat = 0 by omega, show (p - l).toNat = 0 by omega, Nat.pow_zero, Nat.mul_one, Nat.mul_one]
      rw [show (l - (p - k)).toNat = (l - p).toNat + k by omega]
      exact cut_scale neg m k _ hm

/-- What a natural number of least units is rounded to: a rung. -/
def rnd (n : Nat) : Nat := min ((n.log2 - 52) * 4503599627370496 + Toward.even.cut false n (n.log2 - 52)) 9218868437227405312

theorem rnd_zero : rnd 0 = 0 := by decide

theorem nearest_least (neg : Bool) (n : Nat) : double.nearest neg n (-1074) = double.word neg (rnd n) := by
  by_cases hn : n = 0
  · subst hn; simp [Format.nearest, rnd_zero]
  · unfold Format.nearest rnd
    rw [if_neg hn]
    simp only [double_least, double_frac, double_binade, double_inf]
    rw [show (max ((-1074 : Int) + (n.log2 : Int) - ((52 : Nat) : Int)) (-1074)) = -1074 + ((n.log2 - 52 : Nat) : Int) by omega]
    rw [show ((-1074 : Int) + ((n.log2 - 52 : Nat) : Int) - -1074).toNat = n.log2 - 52 by omega]
    rw [show ((-1074 : Int) - (-1074 + ((n.log2 - 52 : Nat) : Int))).toNat = 0 by omega]
    rfl

theorem nearest_units (neg : Bool) (m : Nat) (p : Int) (hp : -1074 ≤ p) : double.nearest neg m p = double.word neg (rnd (m * 2 ^ (p + 1074).toNat)) := by
  rw [← nearest_least, ← nearest_scale neg m (p + 1074).toNat p]
  congr 1
  omega

theorem cut_mono (b : Bool) (n m d : Nat) (h : n ≤ m) (hd : d ≤ n.log2 + 2) (hd' : d ≤ m.log2 + 2) : Toward.even.cut b n d ≤ Toward.even.cut b m d := by
  rw [cut_eq, cut_eq, Nat.min_eq_left hd, Nat.min_eq_left hd']
  obtain ⟨g, hg⟩ : ∃ g, g = 2 ^ d := ⟨_, rfl⟩
  rw [← hg]
  have hg0 : 0 < g := by rw [hg]; exact Nat.two_pow_pos d
  have hl : n / g ≤ m / g := Nat.div_le_div_right h
  obtain ⟨x, hx⟩ : ∃ x, x = (decide (g < 2 * (n % g)) || (g == 2 * (n % g) && n / g % 2 == 1)) := ⟨_, rfl⟩
  obtain ⟨y, hy⟩ : ∃ y, y = (decide (g < 2 * (m % g)) || (g == 2 * (m % g) && m / g % 2 == 1)) := ⟨_, rfl⟩
  rw [← hx, ← hy]
  have hx1 : x.toNat ≤ 1 := by cases x <;> decide
  by_cases he : n / g = m / g
  · have hr : n % g ≤ m % g := by
      have a := Nat.div_add_mod n g
      have c := Nat.div_add_mod m g
      rw [he] at a
      omega
    have : x.toNat ≤ y.toNat := by
      rw [hx, hy, he]
      by_cases c1 : g < 2 * (n % g)
      · rw [show decide (g < 2 * (m % g)) = true from by simpa using (by omega : g < 2 * (m % g))]
        simp
        exact Bool.toNat_le _
      · rw [decide_eq_false c1]
        by_cases c2 : g = 2 * (n % g)
        · by_cases c3 : g < 2 * (m % g)
          · rw [decide_eq_true c3]; simp; exact Bool.toNat_le _
          · rw [decide_eq_false c3, show n % g = m % g by omega]
            exact Nat.le_refl _
        · rw [show (g == 2 * (n % g)) = false from by simpa using c2]
          simp
    omega
  · omega

theorem cut_bounds (b : Bool) (n d : Nat) (hn : n ≠ 0) (hd : d ≤ n.log2) : 2 ^ (n.log2 - d) ≤ Toward.even.cut b n d ∧ Toward.even.cut b n d ≤ 2 ^ (n.log2 - d + 1) := by
  rw [cut_eq, Nat.min_eq_left (by omega)]
  have a : 2 ^ n.log2 ≤ n := Nat.log2_self_le hn
  have c : n < 2 ^ (n.log2 + 1) := Nat.lt_log2_self
  have hg : 0 < 2 ^ d := Nat.two_pow_pos d
  have e1 : 2 ^ (n.log2 - d) ≤ n / 2 ^ d := by
    rw [Nat.le_div_iff_mul_le hg, ← Nat.pow_add, show n.log2 - d + d = n.log2 by omega]
    exact a
  have e2 : n / 2 ^ d < 2 ^ (n.log2 - d + 1) := by
    rw [Nat.div_lt_iff_lt_mul hg, ← Nat.pow_add, show n.log2 - d + 1 + d = n.log2 + 1 by omega]
    exact c
  have : ∀ x : Bool, x.toNat ≤ 1 := fun x => Bool.toNat_le x
  have := this (decide (2 ^ d < 2 * (n % 2 ^ d)) || (2 ^ d == 2 * (n % 2 ^ d) && n / 2 ^ d % 2 == 1))
  omega

theorem log2_mono {n m : Nat} (hn : n ≠ 0) (h : n ≤ m) : n.log2 ≤ m.log2 := by
  have hm : m ≠ 0 := by omega
  by_cases c : n.log2 ≤ m.log2
  · exact c
  · have a := (Nat.log2_lt hm (k := n.log2)).1 (by omega)
    have b := Nat.log2_self_le hn
    omega

theorem rnd_mono (n m : Nat) (h : n ≤ m) : rnd n ≤ rnd m := by
  by_cases hn : n = 0
  · subst hn; rw [rnd_zero]; exact Nat.zero_le _
  · have hm : m ≠ 0 := by omega
    have hl := log2_mono hn h
    unfold rnd
    suffices H : (n.log2 - 52) * 4503599627370496 + Toward.even.cut false n (n.log2 - 52) ≤ (m.log2 - 52) * 4503599627370496 + Toward.even.cut false m (m.log2 - 52) by omega
    by_cases e : n.log2 - 52 = m.log2 - 52
    · rw [e]
      have := cut_mono false n m (m.log2 - 52) h (by omega) (by omega)
      omega
    · have hb := (cut_bounds false n (n.log2 - 52) hn (by omega)).2
      have hc := (cut_bounds false m (m.log2 - 52) hm (by omega)).1
      have e1 : 2 ^ (n.log2 - (n.log2 - 52) + 1) ≤ 2 ^ 53 := Nat.pow_le_pow_right (by decide) (by omega)
      have e2 : 2 ^ 52 ≤ 2 ^ (m.log2 - (m.log2 - 52)) := Nat.pow_le_pow_right (by decide) (by omega)
      have e3 : (2 : Nat) ^ 53 = 9007199254740992 := by decide
      have e4 : (2 : Nat) ^ 52 = 4503599627370496 := by decide
      omega
end Go.Proofs.Ytajipgcnpemifaa
