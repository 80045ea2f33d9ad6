/- The walk of ArithWhole. -/
import Derived.Test.YtajipgcnpemifaaY
import Derived.Test.YtajipgcnpemifaaV
namespace Go.Proofs.Ytajipgcnpemifaa
open Go.RowKit Ieee

theorem ne_of_eqf {p q : Nat} (h : eqf p q) : (FloatKind.f64.format.order p q != some .eq) = false := by
  have e : FloatKind.f64.format.order p q = some .eq := h
  rw [e]; rfl
theorem eq_of_eqf {p q : Nat} (h : eqf p q) : (FloatKind.f64.format.order p q == some .eq) = true := by
  have e : FloatKind.f64.format.order p q = some .eq := h
  rw [e]; rfl
theorem eqf_of_eq {p q : Nat} (hq : q < 2 ^ 64) (nq : nanq q = false) (h : p = q) : eqf p q := by rw [h]; exact eqf_refl q hq nq

/-- What the statement's tests say of two whole numbers. -/
structure Whole (m n lo hi : Int) : Prop where
  lm : flo m < 2 ^ 64
  ln : flo n < 2 ^ 64
  t2 : (FloatKind.f64.format.order (dob 2 (flo m) (flo n)) (flo (m + n)) != some .eq) = false
  t3 : (FloatKind.f64.format.order (dob 3 (flo m) (flo n)) (flo (m - n)) != some .eq) = false
  t4 : (FloatKind.f64.format.order (dob 4 (flo m) (flo n)) (flo (m * n)) != some .eq) = false
  t6 : (FloatKind.f64.format.order (dob 6 (flo m) (flo n)) (flo lo) != some .eq) = false
  t7 : (FloatKind.f64.format.order (dob 7 (flo m) (flo n)) (flo hi) != some .eq) = false
  t1 : (FloatKind.f64.format.order (dob 1 (flo m) (flo n)) (flo (-m)) != some .eq) = false
  t5 : n ≠ 0 → (FloatKind.f64.format.order (dob 5 (dob 4 (flo m) (flo n)) (flo n)) (flo m) == some .eq) = true

theorem mul_small (m n : Int) (hm : -67108864 < m ∧ m < 67108864) (hn : -67108864 < n ∧ n < 67108864) : -4503599627370496 ≤ m * n ∧ m * n ≤ 4503599627370496 := by
  have h : (m * n).natAbs ≤ 67108864 * 67108864 := by
    rw [Int.natAbs_mul]
    exact Nat.mul_le_mul (by omega) (by omega)
  omega

theorem whole_of (m n lo hi : Int) (hm : -67108864 < m ∧ m < 67108864) (hn : -67108864 < n ∧ n < 67108864) (hlo : (if n < m then n else m) = lo) (hhi : (if m < n then n else m) = hi) : Whole m n lo hi := by
  have hp := mul_small m n hm hn
  have bm : m.natAbs < 9007199254740992 := by omega
  have bn : n.natAbs < 9007199254740992 := by omega
  have bp : (m * n).natAbs < 9007199254740992 := by omega
  have blo : lo.natAbs < 9007199254740992 := by rw [← hlo]; split <;> omega
  have bhi : hi.natAbs < 9007199254740992 := by rw [← hhi]; split <;> omega
  have k : ∀ z : Int, z.natAbs < 9007199254740992 → ∀ p, p = flo z → (FloatKind.f64.format.order p (flo z) != some .eq) = false := fun z hz p e =>
    ne_of_eqf (eqf_of_eq (flo_facts z hz).1 (flo_facts z hz).2.2.1 e)
  exact ⟨(flo_facts m bm).1, (flo_facts n bn).1, k _ (by omega) _ (flo_add m n bm bn), k _ (by omega) _ (flo_sub m n bm bn), ne_of_eqf (flo_mul m n bm bn bp),
    k _ blo _ (by rw [← hlo]; exact flo_min m n bm bn), k _ bhi _ (by rw [← hhi]; exact flo_max m n bm bn), ne_of_eqf (flo_opp m _ bm), fun h0 => eq_of_eqf (flo_div m n bm bn bp h0)⟩

theorem flo_is (n : Int) : floatOfInt .f64 n = flo n := rfl

set_option maxRecDepth 100000 in
set_option maxHeartbeats 16000000 in
theorem whole_walk (a b c : Int) (ha : 0 ≤ a ∧ a < 4294967296) (hb : 0 ≤ b ∧ b < 4294967296) (hc : 0 ≤ c ∧ c < 256) (w : World) :
    Calls Try.prog 3 #[.int .u32 a, .int .u32 b, .int .u8 c] w fun e w' => e = .returned (.bool true) ∧ Below w.heap.size w w' := by
  have hB := Below.refl w.heap.size w
  obtain ⟨ha1, ha2⟩ := ha
  obtain ⟨hb1, hb2⟩ := hb
  obtain ⟨hc1, hc2⟩ := hc
  have hM : 0 ≤ a % 67108864 ∧ a % 67108864 < 67108864 := by omega
  have hN' : 0 ≤ b % 67108864 ∧ b % 67108864 < 67108864 := by omega
  have HM := Lib.hid hM
  have HN := Lib.hid hN'
  clear hM hN'
  cases b1 : (bits BinOp.and IntKind.u8 c 1 == 1)
  · cases b2 : (bits BinOp.and IntKind.u8 c 2 == 2)
    · go_enter Try.func3, Try.ntmps3
      go_wp2_with fail
      refine (awake_any _).mono ?_
      rintro e w1 ⟨rfl, hN⟩
      replace hB := hB.trans (hN.mono hB.size)
      clear hN
      go_wp2_with fail
      generalize a % 67108864 = M at HM ⊢
      generalize b % 67108864 = N at HN ⊢
      have bm : -67108864 < M ∧ M < 67108864 := by have := HM.out; omega
      have bn : -67108864 < N ∧ N < 67108864 := by have := HN.out; omega
      obtain ⟨lo, hlo⟩ : ∃ lo, (if N < M then N else M) = lo := ⟨_, rfl⟩
      obtain ⟨hi, hhi⟩ : ∃ hi, (if M < N then N else M) = hi := ⟨_, rfl⟩
      have W := whole_of M N lo hi bm bn hlo hhi
      have hp := mul_small M N bm bn
      obtain ⟨bm1, bm2⟩ := bm
      obtain ⟨bn1, bn2⟩ := bn
      obtain ⟨hp1, hp2⟩ := hp
      have hfl := flo_is
      have t2 := W.t2
      have t3 := W.t3
      have t4 := W.t4
      have t6 := W.t6
      have t7 := W.t7
      have t1 := W.t1
      rw [flo_is, flo_is]
      refine (do10_any 2 (by omega) (by omega) _ _ _ W.lm W.ln).mono ?_
      rintro e w2 ⟨rfl, hN⟩
      replace hB := hB.trans (hN.mono hB.size)
      clear hN
      go_wp2_with fail
      refine (do10_any 3 (by omega) (by omega) _ _ _ W.lm W.ln).mono ?_
      rintro e w3 ⟨rfl, hN⟩
      replace hB := hB.trans (hN.mono hB.size)
      clear hN
      go_wp2_with fail
      refine (do10_any 4 (by omega) (by omega) _ _ _ W.lm W.ln).mono ?_
      rintro e w4 ⟨rfl, hN⟩
      replace hB := hB.trans (hN.mono hB.size)
      clear hN
      go_wp2_with fail
      refine (do10_any 6 (by omega) (by omega) _ _ _ W.lm W.ln).mono ?_
      rintro e w5 ⟨rfl, hN⟩
      replace hB := hB.trans (hN.mono hB.size)
      clear hN
      go_wp2_with fail
      refine (do10_any 7 (by omega) (by omega) _ _ _ W.lm W.ln).mono ?_
      rintro e w6 ⟨rfl, hN⟩
      replace hB := hB.trans (hN.mono hB.size)
      clear hN
      go_wp2_with fail
      refine (do10_any 1 (by omega) (by omega) _ _ _ W.lm W.ln).mono ?_
      rintro e w7 ⟨rfl, hN⟩
      replace hB := hB.trans (hN.mono hB.size)
      clear hN
      by_cases h0 : N = 0
      · have h0' : (N == 0) = true := by rw [h0]; rfl
        have H0 := Lib.hid h0
        clear h0
        go_wp2_with fail
        go_ret
        exact ⟨rfl, hB⟩
      have h0' : (N == 0) = false := by simpa using h0
      have t5 := W.t5 h0
      clear h0
      go_wp2_with fail
      refine (do10_any 4 (by omega) (by omega) _ _ _ W.lm W.ln).mono ?_
      rintro e w8 ⟨rfl, hN⟩
      replace hB := hB.trans (hN.mono hB.size)
      clear hN
      go_wp2_with fail
      refine (do10_any 5 (by omega) (by omega) _ _ _ (dob_lt 4 _ _ W.lm W.ln) W.ln).mono ?_
      rintro e w9 ⟨rfl, hN⟩
      replace hB := hB.trans (hN.mono hB.size)
      clear hN
      go_wp2_with fail
      go_ret
      exact ⟨rfl, hB⟩
    · go_enter Try.func3, Try.ntmps3
      go_wp2_with fail
      refine (awake_any _).mono ?_
      rintro e w10 ⟨rfl, hN⟩
      replace hB := hB.trans (hN.mono hB.size)
      clear hN
      go_wp2_with fail
      generalize a % 67108864 = M at HM ⊢
      generalize b % 67108864 = N at HN ⊢
      generalize hn : -N = n
      have bm : -67108864 < M ∧ M < 67108864 := by have := HM.out; omega
      have bn : -67108864 < n ∧ n < 67108864 := by have := HN.out; omega
      have Hn := Lib.hid hn
      clear hn
      obtain ⟨lo, hlo⟩ : ∃ lo, (if n < M then n else M) = lo := ⟨_, rfl⟩
      obtain ⟨hi, hhi⟩ : ∃ hi, (if M < n then n else M) = hi := ⟨_, rfl⟩
      have W := whole_of M n lo hi bm bn hlo hhi
      have hp := mul_small M n bm bn
      obtain ⟨bm1, bm2⟩ := bm
      obtain ⟨bn1, bn2⟩ := bn
      obtain ⟨hp1, hp2⟩ := hp
      have hfl := flo_is
      have t2 := W.t2
      have t3 := W.t3
      have t4 := W.t4
      have t6 := W.t6
      have t7 := W.t7
      have t1 := W.t1
      rw [flo_is, flo_is]
      refine (do10_any 2 (by omega) (by omega) _ _ _ W.lm W.ln).mono ?_
      rintro e w11 ⟨rfl, hN⟩
      replace hB := hB.trans (hN.mono hB.size)
      clear hN
      go_wp2_with fail
      refine (do10_any 3 (by omega) (by omega) _ _ _ W.lm W.ln).mono ?_
      rintro e w12 ⟨rfl, hN⟩
      replace hB := hB.trans (hN.mono hB.size)
      clear hN
      go_wp2_with fail
      refine (do10_any 4 (by omega) (by omega) _ _ _ W.lm W.ln).mono ?_
      rintro e w13 ⟨rfl, hN⟩
      replace hB := hB.trans (hN.mono hB.size)
      clear hN
      go_wp2_with fail
      refine (do10_any 6 (by omega) (by omega) _ _ _ W.lm W.ln).mono ?_
      rintro e w14 ⟨rfl, hN⟩
      replace hB := hB.trans (hN.mono hB.size)
      clear hN
      go_wp2_with fail
      refine (do10_any 7 (by omega) (by omega) _ _ _ W.lm W.ln).mono ?_
      rintro e w15 ⟨rfl, hN⟩
      replace hB := hB.trans (hN.mono hB.size)
      clear hN
      go_wp2_with fail
      refine (do10_any 1 (by omega) (by omega) _ _ _ W.lm W.ln).mono ?_
      rintro e w16 ⟨rfl, hN⟩
      replace hB := hB.trans (hN.mono hB.size)
      clear hN
      by_cases h0 : n = 0
      · have h0' : (n == 0) = true := by rw [h0]; rfl
        have H0 := Lib.hid h0
        clear h0
        go_wp2_with fail
        go_ret
        exact ⟨rfl, hB⟩
      have h0' : (n == 0) = false := by simpa using h0
      have t5 := W.t5 h0
      clear h0
      go_wp2_with fail
      refine (do10_any 4 (by omega) (by omega) _ _ _ W.lm W.ln).mono ?_
      rintro e w17 ⟨rfl, hN⟩
      replace hB := hB.trans (hN.mono hB.size)
      clear hN
      go_wp2_with fail
      refine (do10_any 5 (by omega) (by omega) _ _ _ (dob_lt 4 _ _ W.lm W.ln) W.ln).mono ?_
      rintro e w18 ⟨rfl, hN⟩
      replace hB := hB.trans (hN.mono hB.size)
      clear hN
      go_wp2_with fail
      go_ret
      exact ⟨rfl, hB⟩
  · cases b2 : (bits BinOp.and IntKind.u8 c 2 == 2)
    · go_enter Try.func3, Try.ntmps3
      go_wp2_with fail
      refine (awake_any _).mono ?_
      rintro e w19 ⟨rfl, hN⟩
      replace hB := hB.trans (hN.mono hB.size)
      clear hN
      go_wp2_with fail
      generalize a % 67108864 = M at HM ⊢
      generalize b % 67108864 = N at HN ⊢
      generalize hm : -M = m
      have bm : -67108864 < m ∧ m < 67108864 := by have := HM.out; omega
      have Hm := Lib.hid hm
      clear hm
      have bn : -67108864 < N ∧ N < 67108864 := by have := HN.out; omega
      obtain ⟨lo, hlo⟩ : ∃ lo, (if N < m then N else m) = lo := ⟨_, rfl⟩
      obtain ⟨hi, hhi⟩ : ∃ hi, (if m < N then N else m) = hi := ⟨_, rfl⟩
      have W := whole_of m N lo hi bm bn hlo hhi
      have hp := mul_small m N bm bn
      obtain ⟨bm1, bm2⟩ := bm
      obtain ⟨bn1, bn2⟩ := bn
      obtain ⟨hp1, hp2⟩ := hp
      have hfl := flo_is
      have t2 := W.t2
      have t3 := W.t3
      have t4 := W.t4
      have t6 := W.t6
      have t7 := W.t7
      have t1 := W.t1
      rw [flo_is, flo_is]
      refine (do10_any 2 (by omega) (by omega) _ _ _ W.lm W.ln).mono ?_
      rintro e w20 ⟨rfl, hN⟩
      replace hB := hB.trans (hN.mono hB.size)
      clear hN
      go_wp2_with fail
      refine (do10_any 3 (by omega) (by omega) _ _ _ W.lm W.ln).mono ?_
      rintro e w21 ⟨rfl, hN⟩
      replace hB := hB.trans (hN.mono hB.size)
      clear hN
      go_wp2_with fail
      refine (do10_any 4 (by omega) (by omega) _ _ _ W.lm W.ln).mono ?_
      rintro e w22 ⟨rfl, hN⟩
      replace hB := hB.trans (hN.mono hB.size)
      clear hN
      go_wp2_with fail
      refine (do10_any 6 (by omega) (by omega) _ _ _ W.lm W.ln).mono ?_
      rintro e w23 ⟨rfl, hN⟩
      replace hB := hB.trans (hN.mono hB.size)
      clear hN
      go_wp2_with fail
      refine (do10_any 7 (by omega) (by omega) _ _ _ W.lm W.ln).mono ?_
      rintro e w24 ⟨rfl, hN⟩
      replace hB := hB.trans (hN.mono hB.size)
      clear hN
      go_wp2_with fail
      refine (do10_any 1 (by omega) (by omega) _ _ _ W.lm W.ln).mono ?_
      rintro e w25 ⟨rfl, hN⟩
      replace hB := hB.trans (hN.mono hB.size)
      clear hN
      by_cases h0 : N = 0
      · have h0' : (N == 0) = true := by rw [h0]; rfl
        have H0 := Lib.hid h0
        clear h0
        go_wp2_with fail
        go_ret
        exact ⟨rfl, hB⟩
      have h0' : (N == 0) = false := by simpa using h0
      have t5 := W.t5 h0
      clear h0
      go_wp2_with fail
      refine (do10_any 4 (by omega) (by omega) _ _ _ W.lm W.ln).mono ?_
      rintro e w26 ⟨rfl, hN⟩
      replace hB := hB.trans (hN.mono hB.size)
      clear hN
      go_wp2_with fail
      refine (do10_any 5 (by omega) (by omega) _ _ _ (dob_lt 4 _ _ W.lm W.ln) W.ln).mono ?_
      rintro e w27 ⟨rfl, hN⟩
      replace hB := hB.trans (hN.mono hB.size)
      clear hN
      go_wp2_with fail
      go_ret
      exact ⟨rfl, hB⟩
    · go_enter Try.func3, Try.ntmps3
      go_wp2_with fail
      refine (awake_any _).mono ?_
      rintro e w28 ⟨rfl, hN⟩
      replace hB := hB.trans (hN.mono hB.size)
      clear hN
      go_wp2_with fail
      generalize a % 67108864 = M at HM ⊢
      generalize b % 67108864 = N at HN ⊢
      generalize hm : -M = m
      generalize hn : -N = n
      have bm : -67108864 < m ∧ m < 67108864 := by have := HM.out; omega
      have Hm := Lib.hid hm
      clear hm
      have bn : -67108864 < n ∧ n < 67108864 := by have := HN.out; omega
      have Hn := Lib.hid hn
      clear hn
      obtain ⟨lo, hlo⟩ : ∃ lo, (if n < m then n else m) = lo := ⟨_, rfl⟩
      obtain ⟨hi, hhi⟩ : ∃ hi, (if m < n then n else m) = hi := ⟨_, rfl⟩
      have W := whole_of m n lo hi bm bn hlo hhi
      have hp := mul_small m n bm bn
      obtain ⟨bm1, bm2⟩ := bm
      obtain ⟨bn1, bn2⟩ := bn
      obtain ⟨hp1, hp2⟩ := hp
      have hfl := flo_is
      have t2 := W.t2
      have t3 := W.t3
      have t4 := W.t4
      have t6 := W.t6
      have t7 := W.t7
      have t1 := W.t1
      rw [flo_is, flo_is]
      refine (do10_any 2 (by omega) (by omega) _ _ _ W.lm W.ln).mono ?_
      rintro e w29 ⟨rfl, hN⟩
      replace hB := hB.trans (hN.mono hB.size)
      clear hN
      go_wp2_with fail
      refine (do10_any 3 (by omega) (by omega) _ _ _ W.lm W.ln).mono ?_
      rintro e w30 ⟨rfl, hN⟩
      replace hB := hB.trans (hN.mono hB.size)
      clear hN
      go_wp2_with fail
      refine (do10_any 4 (by omega) (by omega) _ _ _ W.lm W.ln).mono ?_
      rintro e w31 ⟨rfl, hN⟩
      replace hB := hB.trans (hN.mono hB.size)
      clear hN
      go_wp2_with fail
      refine (do10_any 6 (by omega) (by omega) _ _ _ W.lm W.ln).mono ?_
      rintro e w32 ⟨rfl, hN⟩
      replace hB := hB.trans (hN.mono hB.size)
      clear hN
      go_wp2_with fail
      refine (do10_any 7 (by omega) (by omega) _ _ _ W.lm W.ln).mono ?_
      rintro e w33 ⟨rfl, hN⟩
      replace hB := hB.trans (hN.mono hB.size)
      clear hN
      go_wp2_with fail
      refine (do10_any 1 (by omega) (by omega) _ _ _ W.lm W.ln).mono ?_
      rintro e w34 ⟨rfl, hN⟩
      replace hB := hB.trans (hN.mono hB.size)
      clear hN
      by_cases h0 : n = 0
      · have h0' : (n == 0) = true := by rw [h0]; rfl
        have H0 := Lib.hid h0
        clear h0
        go_wp2_with fail
        go_ret
        exact ⟨rfl, hB⟩
      have h0' : (n == 0) = false := by simpa using h0
      have t5 := W.t5 h0
      clear h0
      go_wp2_with fail
      refine (do10_any 4 (by omega) (by omega) _ _ _ W.lm W.ln).mono ?_
      rintro e w35 ⟨rfl, hN⟩
      replace hB := hB.trans (hN.mono hB.size)
      clear hN
      go_wp2_with fail
      refine (do10_any 5 (by omega) (by omega) _ _ _ (dob_lt 4 _ _ W.lm W.ln) W.ln).mono ?_
      rintro e w36 ⟨rfl, hN⟩
      replace hB := hB.trans (hN.mono hB.size)
      clear hN
      go_wp2_with fail
      go_ret
      exact ⟨rfl, hB⟩
end Go.Proofs.Ytajipgcnpemifaa
