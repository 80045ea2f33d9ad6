/- The walk of ArithOrder. -/
import Derived.Test.YtajipgcnpemifaaW
import Derived.Test.YtajipgcnpemifaaV
namespace Go.Proofs.Ytajipgcnpemifaa
open Go.RowKit Ieee

/-- Whether a number is infinite. -/
def infq (x : Nat) : Bool := decide (x % 9223372036854775808 = 9218868437227405312)

theorem abs_any (x : Nat) (w : World) (hx : x < 2 ^ 64) : Calls Try.prog 42 #[.float .f64 x] w fun e w' => e = .returned (.float .f64 (x % 9223372036854775808)) ∧ w = w' := by
  have h2 := andnot_sign x hx
  have H2 := Lib.hid h2
  clear h2
  go_enter Try.func42, Try.ntmps42
  go_wp2
  go_ret
  refine ⟨ret_float ?_, rfl⟩
  rw [H2.out]; rfl

theorem big_order (m : Nat) (hm : m < 9223372036854775808) : (FloatKind.f64.format.order m 9218868437227405311 == some .gt) = decide (m = 9218868437227405312) := by
  show (double.order m 9218868437227405311 == some .gt) = _
  rcases nan_cases m with h | h
  · rw [order_nan m _ (.inl h)]
    unfold nanq at h
    have h := of_decide_eq_true h
    rw [decide_eq_false (by omega)]; rfl
  · rw [order_any m _ (by omega) (by omega) h (by decide)]
    unfold nanq at h
    have h := of_decide_eq_false h
    have s1 : srung m = (m : Int) := by unfold srung; rw [if_neg (by omega)]; omega
    have s2 : srung 9218868437227405311 = 9218868437227405311 := by decide
    rw [s1, s2]
    by_cases e : m = 9218868437227405312
    · rw [cmp_gt (by omega), decide_eq_true e]; rfl
    · rw [decide_eq_false e]
      by_cases e2 : m = 9218868437227405311
      · rw [show (m : Int) = 9218868437227405311 by omega, cmp_refl]; rfl
      · rw [cmp_lt (by omega)]; rfl

theorem isinf_any (x : Nat) (w : World) (hx : x < 2 ^ 64) : Calls Try.prog 28 #[.float .f64 x, .int .i64 0] w fun e w' => e = .returned (.bool (infq x)) ∧ w = w' := by
  have hb : (FloatKind.f64.format.order (x % 9223372036854775808) 9218868437227405311 == some .gt) = infq x := big_order (x % 9223372036854775808) (Nat.mod_lt _ (by decide))
  generalize infq x = bb at hb ⊢
  have Hb := Lib.hid hb
  clear hb
  go_enter Try.func28, Try.ntmps28
  go_wp2_with fail
  refine (abs_any _ _ hx).mono ?_
  rintro e _ ⟨rfl, rfl⟩
  generalize x % 9223372036854775808 = m at Hb ⊢
  go_wp2_with fail
  go_ret
  exact ⟨ret_bool Hb.out, rfl⟩

theorem isinf_is (b : Bool) (x : Nat) (w : World) (hx : x < 2 ^ 64) (h : infq x = b) : Calls Try.prog 28 #[.float .f64 x, .int .i64 0] w fun e w' => e = .returned (.bool b) ∧ w = w' := by
  rw [← h]; exact isinf_any x w hx

theorem fn_26 (x : Nat) (w : World) (hx : x < 2 ^ 64) :
    Calls Try.prog 26 #[.float .f64 x] w fun e w' => e = .returned (.float .f64 (dob 1 x 0)) ∧ Below w.heap.size w w' := by
  go_enter Try.func26, Try.ntmps26
  go_wp2_with fail
  refine (do10_any 1 (by omega) (by omega) _ _ _ hx (by decide)).mono ?_
  rintro e w1 ⟨rfl, hB⟩
  go_wp2_with fail
  go_ret
  exact ⟨rfl, hB⟩

theorem fin_of {x : Nat} (h1 : nanq x = false) (h2 : infq x = false) : finq x = true := by
  unfold nanq at h1; unfold infq at h2; unfold finq
  have h1 := of_decide_eq_false h1
  have h2 := of_decide_eq_false h2
  exact decide_eq_true (by omega)

theorem cmpi_le {a b : Int} (h : a ≤ b) : decide (0 < cmpi a b) = false := by
  unfold cmpi
  by_cases c : a < b
  · rw [if_pos c]; rfl
  · rw [if_neg c, if_neg (by omega)]; rfl

set_option maxRecDepth 100000 in
set_option maxHeartbeats 8000000 in
theorem order_walk (a b c : Int) (ha : 0 ≤ a ∧ a < 18446744073709551616) (hb : 0 ≤ b ∧ b < 18446744073709551616) (hc : 0 ≤ c ∧ c < 18446744073709551616) (w : World) :
    Calls Try.prog 8 #[.int .u64 a, .int .u64 b, .int .u64 c] w fun e w' => e = .returned (.bool true) ∧ Below w.heap.size w w' := by
  obtain ⟨x, rfl⟩ := Int.eq_ofNat_of_zero_le ha.1
  obtain ⟨y, rfl⟩ := Int.eq_ofNat_of_zero_le hb.1
  obtain ⟨z, rfl⟩ := Int.eq_ofNat_of_zero_le hc.1
  have hx : x < 2 ^ 64 := by omega
  have hy : y < 2 ^ 64 := by omega
  have hz : z < 2 ^ 64 := by omega
  clear ha hb hc
  have hL := dob_lt 6 x y hx hy
  have hH := dob_lt 7 x y hx hy
  have h0 : (0 : Nat) < 2 ^ 64 := by decide
  have hB := Below.refl w.heap.size w
  go_enter Try.func8, Try.ntmps8
  go_wp2_with fail
  refine (awake_any _).mono ?_
  rintro e w1 ⟨rfl, hN⟩
  replace hB := hB.trans (hN.mono hB.size)
  clear hN
  go_wp2_with fail
  refine (do10_any 6 (by omega) (by omega) _ _ _ hx hy).mono ?_
  rintro e w2 ⟨rfl, hN⟩
  replace hB := hB.trans (hN.mono hB.size)
  clear hN
  go_wp2_with fail
  refine (do10_any 7 (by omega) (by omega) _ _ _ hx hy).mono ?_
  rintro e w3 ⟨rfl, hN⟩
  replace hB := hB.trans (hN.mono hB.size)
  clear hN
  go_wp2_with fail
  refine (do10_any 6 (by omega) (by omega) _ _ _ hL hz).mono ?_
  rintro e w4 ⟨rfl, hN⟩
  replace hB := hB.trans (hN.mono hB.size)
  clear hN
  go_wp2_with fail
  refine (do10_any 6 (by omega) (by omega) _ _ _ hy hz).mono ?_
  rintro e w5 ⟨rfl, hN⟩
  replace hB := hB.trans (hN.mono hB.size)
  clear hN
  go_wp2_with fail
  refine (do10_any 6 (by omega) (by omega) _ _ _ hx (dob_lt 6 _ _ hy hz)).mono ?_
  rintro e w6 ⟨rfl, hN⟩
  replace hB := hB.trans (hN.mono hB.size)
  clear hN
  go_wp2_with fail
  refine (same_yes _ _ _ (dob_lt 6 _ _ hL hz) (dob_lt 6 _ _ hx (dob_lt 6 _ _ hy hz)) (min_assoc x y z hx hy hz)).mono ?_
  rintro e _ ⟨rfl, rfl⟩
  go_wp2_with fail
  refine (do10_any 7 (by omega) (by omega) _ _ _ hH hz).mono ?_
  rintro e w7 ⟨rfl, hN⟩
  replace hB := hB.trans (hN.mono hB.size)
  clear hN
  go_wp2_with fail
  refine (do10_any 7 (by omega) (by omega) _ _ _ hy hz).mono ?_
  rintro e w8 ⟨rfl, hN⟩
  replace hB := hB.trans (hN.mono hB.size)
  clear hN
  go_wp2_with fail
  refine (do10_any 7 (by omega) (by omega) _ _ _ hx (dob_lt 7 _ _ hy hz)).mono ?_
  rintro e w9 ⟨rfl, hN⟩
  replace hB := hB.trans (hN.mono hB.size)
  clear hN
  go_wp2_with fail
  refine (same_yes _ _ _ (dob_lt 7 _ _ hH hz) (dob_lt 7 _ _ hx (dob_lt 7 _ _ hy hz)) (max_assoc x y z hx hy hz)).mono ?_
  rintro e _ ⟨rfl, rfl⟩
  go_wp2_with fail
  refine (fn_26 _ _ hL).mono ?_
  rintro e w10 ⟨rfl, hN⟩
  replace hB := hB.trans (hN.mono hB.size)
  clear hN
  go_wp2_with fail
  refine (fn_26 _ _ hx).mono ?_
  rintro e w11 ⟨rfl, hN⟩
  replace hB := hB.trans (hN.mono hB.size)
  clear hN
  go_wp2_with fail
  refine (fn_26 _ _ hy).mono ?_
  rintro e w12 ⟨rfl, hN⟩
  replace hB := hB.trans (hN.mono hB.size)
  clear hN
  go_wp2_with fail
  refine (do10_any 7 (by omega) (by omega) _ _ _ (dob_lt 1 _ _ hx h0) (dob_lt 1 _ _ hy h0)).mono ?_
  rintro e w13 ⟨rfl, hN⟩
  replace hB := hB.trans (hN.mono hB.size)
  clear hN
  go_wp2_with fail
  refine (same_yes _ _ _ (dob_lt 1 _ _ hL h0) (dob_lt 7 _ _ (dob_lt 1 _ _ hx h0) (dob_lt 1 _ _ hy h0)) (neg_min x y hx hy)).mono ?_
  rintro e _ ⟨rfl, rfl⟩
  have tx := ne_self x hx
  have ty := ne_self y hy
  have tz := ne_self z hz
  rcases nan_cases x with nx | nx
  · rw [nx] at tx
    have tl : (FloatKind.f64.format.order (dob 6 x y) (dob 6 x y) != some .eq) = true := by rw [dob6_nan x y (.inl nx)]; kernel_rfl
    have th : (FloatKind.f64.format.order (dob 7 x y) (dob 7 x y) != some .eq) = true := by rw [dob7_nan x y hx hy (.inl nx)]; kernel_rfl
    clear nx ty tz
    go_wp2_with fail
    go_ret
    exact ⟨rfl, hB⟩
  rcases nan_cases y with ny | ny
  · rw [nx] at tx
    rw [ny] at ty
    have tl : (FloatKind.f64.format.order (dob 6 x y) (dob 6 x y) != some .eq) = true := by rw [dob6_nan x y (.inr ny)]; kernel_rfl
    have th : (FloatKind.f64.format.order (dob 7 x y) (dob 7 x y) != some .eq) = true := by rw [dob7_nan x y hx hy (.inr ny)]; kernel_rfl
    clear nx ny tz
    go_wp2_with fail
    go_ret
    exact ⟨rfl, hB⟩
  rw [nx] at tx
  rw [ny] at ty
  obtain ⟨hle, hmm⟩ := min_max x y hx hy nx ny
  have n6 := (dob6_num x y nx ny).1
  have n7 := (dob7_num x y hx hy nx ny).1
  have hcmp := cmpi_le (a := plc (canonb (dob 6 x y))) (b := plc (canonb (dob 7 x y))) (by rw [canonb_num n6, canonb_num n7]; exact hle)
  have HL := Lib.hid hle
  have HM := Lib.hid hmm
  have NX := Lib.hid nx
  have NY := Lib.hid ny
  clear hle hmm nx ny n6 n7
  go_wp2_with fail
  refine (compare_any _ _ _ hL hH).mono ?_
  rintro e _ ⟨rfl, rfl⟩
  have hR : ∀ (c1 c2 c3 c4 : Value), True := fun _ _ _ _ => trivial
  clear hR
  by_cases h1 : dob 6 x y = x
  · have H1 := Lib.hid h1
    clear h1
    go_wp2_with fail
    refine (same_yes _ _ _ hL hx (H1.out)).mono ?_
    rintro e _ ⟨rfl, rfl⟩
    have H2 : Hid (dob 7 x y = y) := Lib.hid (by
      rcases HM.out with h | h
      · exact h.2
      · have := H1.out; rw [h.1] at this; rw [h.2]; exact this.symm)
    go_wp2_with fail
    refine (same_yes _ _ _ hH hy (H2.out)).mono ?_
    rintro e _ ⟨rfl, rfl⟩
    rcases nan_cases z with nz | nz
    · rw [nz] at tz
      clear nz
      go_wp2_with fail
      go_ret
      exact ⟨rfl, hB⟩
    rw [nz] at tz
    have NZ := Lib.hid nz
    clear nz
    cases iz : infq z
    rotate_left
    · have IZ := Lib.hid iz
      clear iz
      go_wp2_with fail
      refine (isinf_is true _ _ hz IZ.out).mono ?_
      rintro e _ ⟨rfl, rfl⟩
      go_wp2_with fail
      go_ret
      exact ⟨rfl, hB⟩
    have IZ := Lib.hid iz
    clear iz
    go_wp2_with fail
    refine (isinf_is false _ _ hz IZ.out).mono ?_
    rintro e _ ⟨rfl, rfl⟩
    cases ix : infq x
    rotate_left
    · have IX := Lib.hid ix
      clear ix
      go_wp2_with fail
      refine (isinf_is true _ _ hx IX.out).mono ?_
      rintro e _ ⟨rfl, rfl⟩
      go_wp2_with fail
      go_ret
      exact ⟨rfl, hB⟩
    have IX := Lib.hid ix
    clear ix
    go_wp2_with fail
    refine (isinf_is false _ _ hx IX.out).mono ?_
    rintro e _ ⟨rfl, rfl⟩
    cases iy : infq y
    rotate_left
    · have IY := Lib.hid iy
      clear iy
      go_wp2_with fail
      refine (isinf_is true _ _ hy IY.out).mono ?_
      rintro e _ ⟨rfl, rfl⟩
      go_wp2_with fail
      go_ret
      exact ⟨rfl, hB⟩
    have IY := Lib.hid iy
    clear iy
    go_wp2_with fail
    refine (isinf_is false _ _ hy IY.out).mono ?_
    rintro e _ ⟨rfl, rfl⟩
    have FL : finq (dob 6 x y) = true := by
      rcases HM.out with h | h
      · rw [h.1]; exact fin_of NX.out IX.out
      · rw [h.1]; exact fin_of NY.out IY.out
    have FH : finq (dob 7 x y) = true := by
      rcases HM.out with h | h
      · rw [h.2]; exact fin_of NY.out IY.out
      · rw [h.2]; exact fin_of NX.out IX.out
    have FZ := fin_of NZ.out IZ.out
    have o1 := sum_order _ _ z hL hH hz FL FH FZ HL.out
    have o2 := sub_order _ _ z hL hH hz FL FH FZ HL.out
    have O1 : (FloatKind.f64.format.order (dob 2 (dob 6 x y) z) (dob 2 (dob 7 x y) z) == some .lt || FloatKind.f64.format.order (dob 2 (dob 6 x y) z) (dob 2 (dob 7 x y) z) == some .eq) = true := o1
    have O2 : (FloatKind.f64.format.order (dob 3 z (dob 6 x y)) (dob 3 z (dob 7 x y)) == some .gt || FloatKind.f64.format.order (dob 3 z (dob 6 x y)) (dob 3 z (dob 7 x y)) == some .eq) = true := o2
    clear FL FH FZ o1 o2
    go_wp2_with fail
    refine (do10_any 2 (by omega) (by omega) _ _ _ hL hz).mono ?_
    rintro e w14 ⟨rfl, hN⟩
    replace hB := hB.trans (hN.mono hB.size)
    clear hN
    go_wp2_with fail
    refine (do10_any 2 (by omega) (by omega) _ _ _ hH hz).mono ?_
    rintro e w15 ⟨rfl, hN⟩
    replace hB := hB.trans (hN.mono hB.size)
    clear hN
    go_wp2_with fail
    refine (do10_any 3 (by omega) (by omega) _ _ _ hz hL).mono ?_
    rintro e w16 ⟨rfl, hN⟩
    replace hB := hB.trans (hN.mono hB.size)
    clear hN
    go_wp2_with fail
    refine (do10_any 3 (by omega) (by omega) _ _ _ hz hH).mono ?_
    rintro e w17 ⟨rfl, hN⟩
    replace hB := hB.trans (hN.mono hB.size)
    clear hN
    go_wp2_with fail
    go_ret
    exact ⟨rfl, hB⟩
  · have H1 : Hid (dob 6 x y = y ∧ dob 7 x y = x) := Lib.hid (by
      rcases HM.out with h | h
      · exact absurd h.1 h1
      · exact h)
    have H3 : Hid ((canonb (dob 6 x y) == canonb x) = false) := Lib.hid (by
      rw [show canonb (dob 6 x y) = dob 6 x y from canonb_num (dob6_num x y NX.out NY.out).1, canonb_num NX.out]
      simpa using h1)
    clear h1
    go_wp2_with fail
    refine (same_no _ _ _ hL hx H3.out).mono ?_
    rintro e _ ⟨rfl, rfl⟩
    go_wp2_with fail
    refine (same_yes _ _ _ hL hy (H1.out.1)).mono ?_
    rintro e _ ⟨rfl, rfl⟩
    go_wp2_with fail
    refine (same_yes _ _ _ hH hx (H1.out.2)).mono ?_
    rintro e _ ⟨rfl, rfl⟩
    rcases nan_cases z with nz | nz
    · rw [nz] at tz
      clear nz
      go_wp2_with fail
      go_ret
      exact ⟨rfl, hB⟩
    rw [nz] at tz
    have NZ := Lib.hid nz
    clear nz
    cases iz : infq z
    rotate_left
    · have IZ := Lib.hid iz
      clear iz
      go_wp2_with fail
      refine (isinf_is true _ _ hz IZ.out).mono ?_
      rintro e _ ⟨rfl, rfl⟩
      go_wp2_with fail
      go_ret
      exact ⟨rfl, hB⟩
    have IZ := Lib.hid iz
    clear iz
    go_wp2_with fail
    refine (isinf_is false _ _ hz IZ.out).mono ?_
    rintro e _ ⟨rfl, rfl⟩
    cases ix : infq x
    rotate_left
    · have IX := Lib.hid ix
      clear ix
      go_wp2_with fail
      refine (isinf_is true _ _ hx IX.out).mono ?_
      rintro e _ ⟨rfl, rfl⟩
      go_wp2_with fail
      go_ret
      exact ⟨rfl, hB⟩
    have IX := Lib.hid ix
    clear ix
    go_wp2_with fail
    refine (isinf_is false _ _ hx IX.out).mono ?_
    rintro e _ ⟨rfl, rfl⟩
    cases iy : infq y
    rotate_left
    · have IY := Lib.hid iy
      clear iy
      go_wp2_with fail
      refine (isinf_is true _ _ hy IY.out).mono ?_
      rintro e _ ⟨rfl, rfl⟩
      go_wp2_with fail
      go_ret
      exact ⟨rfl, hB⟩
    have IY := Lib.hid iy
    clear iy
    go_wp2_with fail
    refine (isinf_is false _ _ hy IY.out).mono ?_
    rintro e _ ⟨rfl, rfl⟩
    have FL : finq (dob 6 x y) = true := by
      rcases HM.out with h | h
      · rw [h.1]; exact fin_of NX.out IX.out
      · rw [h.1]; exact fin_of NY.out IY.out
    have FH : finq (dob 7 x y) = true := by
      rcases HM.out with h | h
      · rw [h.2]; exact fin_of NY.out IY.out
      · rw [h.2]; exact fin_of NX.out IX.out
    have FZ := fin_of NZ.out IZ.out
    have o1 := sum_order _ _ z hL hH hz FL FH FZ HL.out
    have o2 := sub_order _ _ z hL hH hz FL FH FZ HL.out
    have O1 : (FloatKind.f64.format.order (dob 2 (dob 6 x y) z) (dob 2 (dob 7 x y) z) == some .lt || FloatKind.f64.format.order (dob 2 (dob 6 x y) z) (dob 2 (dob 7 x y) z) == some .eq) = true := o1
    have O2 : (FloatKind.f64.format.order (dob 3 z (dob 6 x y)) (dob 3 z (dob 7 x y)) == some .gt || FloatKind.f64.format.order (dob 3 z (dob 6 x y)) (dob 3 z (dob 7 x y)) == some .eq) = true := o2
    clear FL FH FZ o1 o2
    go_wp2_with fail
    refine (do10_any 2 (by omega) (by omega) _ _ _ hL hz).mono ?_
    rintro e w18 ⟨rfl, hN⟩
    replace hB := hB.trans (hN.mono hB.size)
    clear hN
    go_wp2_with fail
    refine (do10_any 2 (by omega) (by omega) _ _ _ hH hz).mono ?_
    rintro e w19 ⟨rfl, hN⟩
    replace hB := hB.trans (hN.mono hB.size)
    clear hN
    go_wp2_with fail
    refine (do10_any 3 (by omega) (by omega) _ _ _ hz hL).mono ?_
    rintro e w20 ⟨rfl, hN⟩
    replace hB := hB.trans (hN.mono hB.size)
    clear hN
    go_wp2_with fail
    refine (do10_any 3 (by omega) (by omega) _ _ _ hz hH).mono ?_
    rintro e w21 ⟨rfl, hN⟩
    replace hB := hB.trans (hN.mono hB.size)
    clear hN
    go_wp2_with fail
    go_ret
    exact ⟨rfl, hB⟩
end Go.Proofs.Ytajipgcnpemifaa
