/- The contracts of Put, Part, Size, At. -/
import Derived.Test.YtadoobkieehajaaA
import Derived.Deep.RegionWith
import Derived.RegionTactic
import Derived.Deep.RegionHeld3
namespace Go.Proofs.Ytadoobkieehajaa
open Go.RowKit

theorem put_full (a : Nat) {s o l} (c : UInt8) (w : World) (h : IsBuf w a s o l) (hl : l.length = s) :
    Calls Try.prog 17 #[.pointer (some ⟨a, 0, none⟩), .int .u8 c.toNat] w fun e w' => e = .returned (.int .i64 4) ∧ ∃ m, w' = w.drewN m := by
  have hb : ((l.length : Int) == s) = true := by simp; omega
  have HB := Lib.hid hb
  clear hb hl
  go_enter Try.func17, Try.ntmps17
  go_wp2_with fail
  refine (none_no _ _ h).mono ?_
  rintro e w1 ⟨rfl, m1, rfl⟩
  go_wp2_with fail
  refine (full_any _ _ (h.drewN _)).mono ?_
  rintro e w1 ⟨rfl, m2, rfl⟩
  rw [HB.out]
  go_wp2_with fail
  go_ret
  exact ⟨rfl, _, rfl⟩

set_option maxHeartbeats 400000 in
theorem put_ok (a : Nat) {s o l} (c : UInt8) (w : World) (h : IsBuf w a s o l) (hl : l.length < s) (ho : o + l.length < 281474976710656) :
    Calls Try.prog 17 #[.pointer (some ⟨a, 0, none⟩), .int .u8 c.toNat] w fun e w' => e = .returned (.int .i64 0) ∧ IsBuf w' a s o (l ++ [c]) ∧ w.grownBy w' (some a) := by
  have hb : ((l.length : Int) == s) = false := by simp; omega
  have HB := Lib.hid hb
  have hb2 : ((o : Int) + l.length == 281474976710656) = false := by simp; omega
  clear hb 
  obtain ⟨r, f, hr, hf, x⟩ := h.ex
  have hs := h.lo
  have hs' := h.hi
  go_enter Try.func17, Try.ntmps17
  go_wp2_with fail
  refine (none_no _ _ h).mono ?_
  rintro e w1 ⟨rfl, m1, rfl⟩
  go_wp2_with fail
  refine (full_any _ _ (h.drewN _)).mono ?_
  rintro e w1 ⟨rfl, m2, rfl⟩
  rw [HB.out]
  have h3 := hr.cheld
  have h4 := hr.corg
  go_wp2_with fail
  go_quiet (fail)
  go_wp2_with fail
  have hp : (f + l.length) % s < 256 := Nat.lt_of_lt_of_le (Nat.mod_lt _ (by omega)) hs'
  obtain ⟨p, hpe⟩ : ∃ p, p = (f + l.length) % s := ⟨_, rfl⟩
  rw [← hpe] at hp
  have HP := Lib.hid hpe
  clear hpe
  have hp1 : (p : Int) < 256 := by omega
  generalize hW : (w.drewN (m1 + m2)).drewN nq = W
  have hrW : Raw W a r s f l.length o := by rw [← hW]; exact (hr.drewN _).drewN _
  have HW := Lib.hid hW
  clear hW
  have h5 := hrW.cheld
  have hcr := hrW.ring _ hp
  have hfz := hrW.free p
  clear hr
  go_region_held3 (fun w' => w'.cell? ⟨a, 258, none⟩ = some (.int .i64 l.length)) (first | go_keep | (rw [cell_setCell_ne (by omega)]; go_keep))
    (first | (go_at_call 32; refine (place_raw _ _ p _ (hrW.of_block ?_) hs hs' hf (by omega) HP).mono ?_; (rfl); rintro e w' ⟨rfl, k, rfl⟩))
  have hrX := ((hrW.drewN (1 + k)).setRing p hp c)
  have h6 := hrX.cheld
  have hf6 := hrX.free 258
  go_wp2
  go_ret
  have hrY := hrX.setHeld (l.length + 1)
  refine ⟨rfl, ⟨⟨_, f, by simpa using hrY, hf, ?_⟩, hs, hs', by simp; omega, by simp; omega⟩, ?_⟩
  · intro i hi
    rw [List.length_append, List.length_singleton] at hi
    by_cases hil : i = l.length
    · subst hil
      simp [HP.out]
    · have hlt : i < l.length := by omega
      have hne : (f + i) % s ≠ p := by rw [HP.out]; exact mod_ne hlt hl
      simp only [if_neg hne]
      rw [x i hlt, List.getElem_append_left hlt]
  · rw [← HW.out]
    exact grown_trans (grown_trans (grown_trans (grown_trans (grown_drewN _ _ _) (grown_drewN _ _ _)) (grown_drewN _ _ _)) (grown_setCell _ _ _ _)) (grown_setCell _ _ _ _)

theorem put_long (a : Nat) {s o l} (c : UInt8) (w : World) (h : IsBuf w a s o l) (hl : l.length < s) (ho : o + l.length = 281474976710656) :
    Calls Try.prog 17 #[.pointer (some ⟨a, 0, none⟩), .int .u8 c.toNat] w fun e w' => e = .returned (.int .i64 3) ∧ ∃ m, w' = w.drewN m := by
  have hb : ((l.length : Int) == s) = false := by simp; omega
  have HB := Lib.hid hb
  have hb2 : ((o : Int) + l.length == 281474976710656) = true := by simp; omega
  clear hb
  obtain ⟨r, f, hr, hf, x⟩ := h.ex
  have hlo := h.lo
  have hhi := h.hi
  have hle : o + l.length ≤ 281474976710656 := by omega
  have HO := Lib.hid ho
  clear ho
  go_enter Try.func17, Try.ntmps17
  go_wp2_with fail
  refine (none_no _ _ h).mono ?_
  rintro e w1 ⟨rfl, m1, rfl⟩
  go_wp2_with fail
  refine (full_any _ _ (h.drewN _)).mono ?_
  rintro e w1 ⟨rfl, m2, rfl⟩
  rw [HB.out]
  have h3 := hr.cheld
  have h4 := hr.corg
  go_wp2_with fail
  go_quiet (fail)
  go_wp2_with fail
  go_ret
  exact ⟨rfl, m1 + m2 + nq, by simp [World.drewN_drewN]⟩

theorem put_nil (c : UInt8) (w : World) :
    Calls Try.prog 17 #[.pointer none, .int .u8 c.toNat] w fun e w' => e = .returned (.int .i64 1) ∧ ∃ m, w' = w.drewN m := by
  go_enter Try.func17, Try.ntmps17
  go_wp2_with fail
  refine (none_nil _).mono ?_
  rintro e w1 ⟨rfl, m1, rfl⟩
  go_wp2_with fail
  go_ret
  exact ⟨rfl, _, rfl⟩

end Go.Proofs.Ytadoobkieehajaa
