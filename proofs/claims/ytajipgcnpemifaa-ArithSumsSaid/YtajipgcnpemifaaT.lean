/- The chapter's examples hold. -/
import Derived.Test.YtajipgcnpemifaaP
namespace Go.Proofs.Ytajipgcnpemifaa
open Go.RowKit Ieee

theorem awake_sides (w : World) : Calls Try.prog 14 #[.int .i64 20, .float .f64 9223372036854775808, .float .f64 0, .float .f64 0] w fun e w' => e = .returned (.tuple #[.float .f64 0, .float .f64 9223372036854775808, .int .i64 0]) ∧ Below w.heap.size w w' := by
  have h := sides_good 19 (by omega) 9223372036854775808 0 0 w (by decide) (by decide) (by decide)
  have e1 : (sidesb (19 + 1) (canonb 9223372036854775808) (canonb 0) (canonb 0)).1 = 0 := by kernel_rfl
  have e2 : (sidesb (19 + 1) (canonb 9223372036854775808) (canonb 0) (canonb 0)).2 = 9223372036854775808 := by kernel_rfl
  rw [e1, e2] at h
  exact h
theorem awake_seven (w : World) : Calls Try.prog 15 #[.int .i64 7] w fun e w' => e = .returned (.tuple #[.bool true, .int .i64 0]) ∧ Below w.heap.size w w' := holds_good 6 (by omega) w
theorem awake_twenty (w : World) : Calls Try.prog 15 #[.int .i64 20] w fun e w' => e = .returned (.tuple #[.bool false, .int .i64 0]) ∧ Below w.heap.size w w' := holds_good 19 (by omega) w
theorem awake_nine (w : World) : Calls Try.prog 16 #[.int .i64 9] w fun e w' => e = .returned (.tuple #[.float .f64 0, .float .f64 0, .float .f64 0, .int .i64 6]) ∧ Below w.heap.size w w' := witness_none 8 (by omega) rfl w
theorem awake_sum (w : World) : Calls Try.prog 18 #[.slice none 0 0] w fun e w' => e = .returned (.float .f64 9223372036854775808) ∧ Below w.heap.size w w' := sum_any none 0 [] w (Fls.nil _ _) (by decide)
theorem awake_is0 (w : World) : Calls Try.prog 31 #[.int .u8 2, .float .f64 0, .float .f64 9223372036854775808, .float .f64 0] w fun e w' => e = .returned (.bool true) ∧ Below w.heap.size w w' :=
  is_true 2 (by omega) (by omega) 0 9223372036854775808 0 w (by decide) (by decide) (by decide) (by kernel_rfl)
theorem awake_is1 (w : World) : Calls Try.prog 31 #[.int .u8 2, .float .f64 9218868437227405312, .float .f64 18442240474082181120, .float .f64 nanb] w fun e w' => e = .returned (.bool true) ∧ Below w.heap.size w w' :=
  is_true 2 (by omega) (by omega) 9218868437227405312 18442240474082181120 nanb w (by decide) (by decide) (by decide) (by kernel_rfl)
theorem awake_is2 (w : World) : Calls Try.prog 31 #[.int .u8 4, .float .f64 0, .float .f64 9218868437227405312, .float .f64 nanb] w fun e w' => e = .returned (.bool true) ∧ Below w.heap.size w w' :=
  is_true 4 (by omega) (by omega) 0 9218868437227405312 nanb w (by decide) (by decide) (by decide) (by kernel_rfl)
theorem awake_is3 (w : World) : Calls Try.prog 31 #[.int .u8 5, .float .f64 4607182418800017408, .float .f64 9223372036854775808, .float .f64 18442240474082181120] w fun e w' => e = .returned (.bool true) ∧ Below w.heap.size w w' :=
  is_true 5 (by omega) (by omega) 4607182418800017408 9223372036854775808 18442240474082181120 w (by decide) (by decide) (by decide) (by kernel_rfl)
theorem awake_is4 (w : World) : Calls Try.prog 31 #[.int .u8 5, .float .f64 0, .float .f64 0, .float .f64 nanb] w fun e w' => e = .returned (.bool true) ∧ Below w.heap.size w w' :=
  is_true 5 (by omega) (by omega) 0 0 nanb w (by decide) (by decide) (by decide) (by kernel_rfl)
theorem awake_is5 (w : World) : Calls Try.prog 31 #[.int .u8 6, .float .f64 0, .float .f64 9223372036854775808, .float .f64 9223372036854775808] w fun e w' => e = .returned (.bool true) ∧ Below w.heap.size w w' :=
  is_true 6 (by omega) (by omega) 0 9223372036854775808 9223372036854775808 w (by decide) (by decide) (by decide) (by kernel_rfl)
theorem awake_is6 (w : World) : Calls Try.prog 31 #[.int .u8 6, .float .f64 nanb, .float .f64 4607182418800017408, .float .f64 nanb] w fun e w' => e = .returned (.bool true) ∧ Below w.heap.size w w' :=
  is_true 6 (by omega) (by omega) nanb 4607182418800017408 nanb w (by decide) (by decide) (by decide) (by kernel_rfl)
theorem awake_is7 (w : World) : Calls Try.prog 31 #[.int .u8 1, .float .f64 0, .float .f64 4621256167635550208, .float .f64 9223372036854775808] w fun e w' => e = .returned (.bool true) ∧ Below w.heap.size w w' :=
  is_true 1 (by omega) (by omega) 0 4621256167635550208 9223372036854775808 w (by decide) (by decide) (by decide) (by kernel_rfl)

theorem neg_inf (w : World) : (Op.unary .neg (.float .f64 9218868437227405312)).run Try.prog w = .ok (.float .f64 18442240474082181120) w := neg_run 9218868437227405312 (by decide) w

set_option maxRecDepth 100000 in
set_option maxHeartbeats 4000000 in
theorem awake_any (w : World) : Calls Try.prog 9 #[] w fun e w' => e = .returned (.bool true) ∧ Below w.heap.size w w' := by
  have hn := neg_inf
  have hB := Below.refl w.heap.size w
  go_enter Try.func9, Try.ntmps9
  go_wp2_with fail
  refine (low_any _).mono ?_
  rintro e _ ⟨rfl, rfl⟩
  go_wp2_with fail
  refine (minf_any _).mono ?_
  rintro e _ ⟨rfl, rfl⟩
  go_wp2_with fail
  refine (awake_sides _).mono ?_
  rintro e w1 ⟨rfl, hN⟩
  replace hB := hB.trans (hN.mono hB.size)
  clear hN
  go_wp2_with fail
  refine (awake_seven _).mono ?_
  rintro e w2 ⟨rfl, hN⟩
  replace hB := hB.trans (hN.mono hB.size)
  clear hN
  go_wp2_with fail
  refine (awake_twenty _).mono ?_
  rintro e w3 ⟨rfl, hN⟩
  replace hB := hB.trans (hN.mono hB.size)
  clear hN
  go_wp2_with fail
  refine (awake_nine _).mono ?_
  rintro e w4 ⟨rfl, hN⟩
  replace hB := hB.trans (hN.mono hB.size)
  clear hN
  go_wp2_with fail
  refine (awake_is0 _).mono ?_
  rintro e w5 ⟨rfl, hN⟩
  replace hB := hB.trans (hN.mono hB.size)
  clear hN
  go_wp2_with fail
  refine (mnan_any _).mono ?_
  rintro e _ ⟨rfl, rfl⟩
  go_wp2_with fail
  refine (awake_is1 _).mono ?_
  rintro e w6 ⟨rfl, hN⟩
  replace hB := hB.trans (hN.mono hB.size)
  clear hN
  go_wp2_with fail
  refine (mnan_any _).mono ?_
  rintro e _ ⟨rfl, rfl⟩
  go_wp2_with fail
  refine (awake_is2 _).mono ?_
  rintro e w7 ⟨rfl, hN⟩
  replace hB := hB.trans (hN.mono hB.size)
  clear hN
  go_wp2_with fail
  refine (awake_is3 _).mono ?_
  rintro e w8 ⟨rfl, hN⟩
  replace hB := hB.trans (hN.mono hB.size)
  clear hN
  go_wp2_with fail
  refine (mnan_any _).mono ?_
  rintro e _ ⟨rfl, rfl⟩
  go_wp2_with fail
  refine (awake_is4 _).mono ?_
  rintro e w9 ⟨rfl, hN⟩
  replace hB := hB.trans (hN.mono hB.size)
  clear hN
  go_wp2_with fail
  refine (awake_is5 _).mono ?_
  rintro e w10 ⟨rfl, hN⟩
  replace hB := hB.trans (hN.mono hB.size)
  clear hN
  go_wp2_with fail
  refine (mnan_any _).mono ?_
  rintro e _ ⟨rfl, rfl⟩
  go_wp2_with fail
  refine (mnan_any _).mono ?_
  rintro e _ ⟨rfl, rfl⟩
  go_wp2_with fail
  refine (awake_is6 _).mono ?_
  rintro e w11 ⟨rfl, hN⟩
  replace hB := hB.trans (hN.mono hB.size)
  clear hN
  go_wp2_with fail
  refine (awake_is7 _).mono ?_
  rintro e w12 ⟨rfl, hN⟩
  replace hB := hB.trans (hN.mono hB.size)
  clear hN
  go_wp2_with fail
  refine (samefloat_any 0 0 _ (by decide) (by decide)).mono ?_
  rintro e _ ⟨rfl, rfl⟩
  rw [show samef 0 0 = true from rfl]
  go_wp2_with fail
  refine (samefloat_any 9223372036854775808 9223372036854775808 _ (by decide) (by decide)).mono ?_
  rintro e _ ⟨rfl, rfl⟩
  rw [show samef 9223372036854775808 9223372036854775808 = true from rfl]
  go_wp2_with fail
  refine (awake_sum _).mono ?_
  rintro e w13 ⟨rfl, hN⟩
  replace hB := hB.trans (hN.mono hB.size)
  clear hN
  go_wp2_with fail
  refine (samefloat_any 9223372036854775808 9223372036854775808 _ (by decide) (by decide)).mono ?_
  rintro e _ ⟨rfl, rfl⟩
  rw [show samef 9223372036854775808 9223372036854775808 = true from rfl]
  go_wp2_with fail
  go_ret
  exact ⟨rfl, hB⟩
end Go.Proofs.Ytajipgcnpemifaa
