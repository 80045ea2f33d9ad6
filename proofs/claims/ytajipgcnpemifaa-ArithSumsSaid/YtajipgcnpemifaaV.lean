/- The walk of ArithLaws. -/
import Derived.Test.YtajipgcnpemifaaR
import Derived.Test.YtajipgcnpemifaaU
namespace Go.Proofs.Ytajipgcnpemifaa
open Go.RowKit Ieee

theorem same_yes (x y : Nat) (w : World) (hx : x < 2 ^ 64) (hy : y < 2 ^ 64) (h : x = y) :
    Calls Try.prog 17 #[.float .f64 x, .float .f64 y] w fun e w' => e = .returned (.bool true) ∧ w = w' := by
  have := same_any x y w hx hy
  rw [show (canonb x == canonb y) = true by rw [h]; simp] at this
  exact this
theorem same_no (x y : Nat) (w : World) (hx : x < 2 ^ 64) (hy : y < 2 ^ 64) (h : (canonb x == canonb y) = false) :
    Calls Try.prog 17 #[.float .f64 x, .float .f64 y] w fun e w' => e = .returned (.bool false) ∧ w = w' := by
  have := same_any x y w hx hy
  rw [h] at this
  exact this

set_option maxRecDepth 100000 in
set_option maxHeartbeats 4000000 in
theorem laws_walk (a b c : Int) (ha : 0 ≤ a ∧ a < 18446744073709551616) (hb : 0 ≤ b ∧ b < 18446744073709551616) (hc : 0 ≤ c ∧ c < 18446744073709551616) (w : World) :
    Calls Try.prog 5 #[.int .u64 a, .int .u64 b, .int .u64 c] w fun e w' => e = .returned (.bool true) ∧ Below w.heap.size w w' := by
  obtain ⟨x, rfl⟩ := Int.eq_ofNat_of_zero_le ha.1
  obtain ⟨y, rfl⟩ := Int.eq_ofNat_of_zero_le hb.1
  obtain ⟨z, rfl⟩ := Int.eq_ofNat_of_zero_le hc.1
  have hx : x < 2 ^ 64 := by omega
  have hy : y < 2 ^ 64 := by omega
  have hz : z < 2 ^ 64 := by omega
  clear ha hb hc
  have cx := clean_canon x hx
  have cy := clean_canon y hy
  have cz := clean_canon z hz
  go_enter Try.func5, Try.ntmps5
  go_wp2_with fail
  refine (awake_any _).mono ?_
  rintro e w1 ⟨rfl, B1⟩
  go_wp2_with fail
  go_loopw [10, 11] (fun n v wr => ∃ j : Nat, j ≤ 24 ∧ v = .int .i64 ((j : Int) + 1) ∧ n = .int .i64 (howMany j : Nat) ∧ Below w.heap.size w wr)
    (fun _ v _ => 25 - (intOf v).toNat)
  case atStart => exact ⟨0, by omega, rfl, rfl, B1⟩
  case round =>
    clear B1
    obtain ⟨j, hj, rfl, rfl, hB⟩ := hrel
    have hm := howMany_le j
    by_cases hj2 : j < 24
    · have hsn := howMany_succ j
      have sl := sidesb_lt (j + 1) _ _ _ cx.1 cy.1 cz.1
      cases hh : holdsb j
      · rw [hh] at hsn
        have HS := Lib.hid hsn
        have H := fun W => holds_good j hj2 W
        have HW := fun W => witness_good j hj2 hh W
        have hd := law_differs j hj2 hh
        rw [hh] at H
        have wl := wit_lt j
        have wl2 := sidesb_lt (j + 1) _ _ _ (canonb_lt _ wl.1) (canonb_lt _ wl.2.1) (canonb_lt _ wl.2.2)
        have HD := Lib.hid hd
        clear hsn hh hd
        generalize hp : (sidesb (j + 1) (canonb x) (canonb y) (canonb z)).1 = p at sl
        generalize hq : (sidesb (j + 1) (canonb x) (canonb y) (canonb z)).2 = q at sl
        have HP := Lib.hid hp
        have HQ := Lib.hid hq
        clear hp hq
        go_wp2_with fail
        refine (H _).mono ?_
        rintro e w2 ⟨rfl, hN⟩
        replace hB := hB.trans (hN.mono hB.size)
        clear hN
        go_wp2_with fail
        refine (sides_good j hj2 x y z _ hx hy hz).mono ?_
        rw [HP.out, HQ.out]
        rintro e w3 ⟨rfl, hN⟩
        replace hB := hB.trans (hN.mono hB.size)
        clear hN
        go_wp2_with fail
        refine (HW _).mono ?_
        rintro e w4 ⟨rfl, hN⟩
        replace hB := hB.trans (hN.mono hB.size)
        clear hN
        go_wp2_with fail
        refine (sides_good j hj2 _ _ _ _ wl.1 wl.2.1 wl.2.2).mono ?_
        rintro e w5 ⟨rfl, hN⟩
        replace hB := hB.trans (hN.mono hB.size)
        clear hN
        go_wp2_with fail
        refine (same_no _ _ _ wl2.1 wl2.2 (by have := HD.out; unfold differs at this; simpa using this)).mono ?_
        rintro e _ ⟨rfl, rfl⟩
        go_wp2_with fail
        go_roundw
        case rel => exact ⟨j + 1, by omega, by go_num, by rw [HS.out]; rfl, hB⟩
        case measure => simp [intOf]; omega
      · rw [hh] at hsn
        have HS := Lib.hid hsn
        have H := fun W => holds_good j hj2 W
        rw [hh] at H
        have hs := law_same j hj2 hh _ _ _ cx cy cz
        have Hs := Lib.hid hs
        clear hsn hh hs
        go_wp2_with fail
        refine (H _).mono ?_
        rintro e w2 ⟨rfl, hN⟩
        replace hB := hB.trans (hN.mono hB.size)
        clear hN
        go_wp2_with fail
        refine (sides_good j hj2 x y z _ hx hy hz).mono ?_
        rintro e w3 ⟨rfl, hN⟩
        replace hB := hB.trans (hN.mono hB.size)
        clear hN
        go_wp2_with fail
        refine (same_yes _ _ _ sl.1 sl.2 Hs.out).mono ?_
        rintro e _ ⟨rfl, rfl⟩
        go_wp2_with fail
        go_roundw
        case rel => exact ⟨j + 1, by omega, by go_num, by rw [HS.out]; go_num, hB⟩
        case measure => simp [intOf]; omega
    · have e24 : j = 24 := by omega
      subst e24
      rw [howMany_all]
      go_wp2_with fail
      go_ret
      exact ⟨rfl, hB⟩
end Go.Proofs.Ytajipgcnpemifaa
