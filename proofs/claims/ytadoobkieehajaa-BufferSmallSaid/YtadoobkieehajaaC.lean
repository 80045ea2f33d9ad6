/- The contracts of Part, Size, At. -/
import Derived.Test.YtadoobkieehajaaB
namespace Go.Proofs.Ytadoobkieehajaa
open Go.RowKit

theorem size_any (a : Nat) {s o l} (w : World) (h : IsBuf w a s o l) :
    Calls Try.prog 21 #[.pointer (some ⟨a, 0, none⟩)] w fun e w' => e = .returned (.int .i64 s) ∧ ∃ m, w' = w.drewN m := by
  obtain ⟨r, f, hr, x⟩ := h.ex
  have h1 := hr.csize
  clear hr x
  go_enter Try.func21, Try.ntmps21
  go_wp2_with fail
  refine (none_no _ _ h).mono ?_
  rintro e w1 ⟨rfl, m1, rfl⟩
  go_wp2_with fail
  go_ret
  exact ⟨rfl, _, rfl⟩

theorem size_nil (w : World) :
    Calls Try.prog 21 #[.pointer none] w fun e w' => e = .returned (.int .i64 0) ∧ ∃ m, w' = w.drewN m := by
  go_enter Try.func21, Try.ntmps21
  go_wp2_with fail
  refine (none_nil _).mono ?_
  rintro e w1 ⟨rfl, m1, rfl⟩
  go_wp2_with fail
  go_ret
  exact ⟨rfl, _, rfl⟩

theorem part_any (a : Nat) {s o l} (w : World) (h : IsBuf w a s o l) :
    Calls Try.prog 18 #[.pointer (some ⟨a, 0, none⟩)] w fun e w' => e = .returned (.agg #[.int .i64 o, .int .i64 (o + l.length)]) ∧ w.grownBy w' none := by
  obtain ⟨r, f, hr, x⟩ := h.ex
  have h3 := hr.cheld
  have h4 := hr.corg
  have hm := h.most
  have hne : w.heap.size ≠ a := by have := hr.lt; omega
  have hsum : IntKind.i64.wrap ((o : Int) + l.length) = o + l.length := IntWalk.i64_in _ (by omega)
  clear hr x
  go_enter Try.func18, Try.ntmps18
  go_wp2_with fail
  refine (none_no _ _ (h.grown (World.grownBy_alloc _ _ none) (by simp))).mono ?_
  rintro e w1 ⟨rfl, m1, rfl⟩
  go_wp2_with fail
  go_region_held3 (fun w' => w'.cell? ⟨a, 258, none⟩ = some (.int .i64 l.length) ∧ w'.cell? ⟨a, 259, none⟩ = some (.int .i64 o)) (go_keep) (fail)
  go_wp2
  refine bodyPost_ret (v := .agg #[.int .i64 o, .int .i64 (o + l.length)]) (by simp [results, Try.results18, go_sem]) rfl ⟨rfl, ?_⟩
  refine grown_of_below _ ?_
  exact Below.setCell (Below.setCell (below_drewN ((Below.refl _ _).alloc (Nat.le_refl _) _) _) (by exact Nat.le_refl _) _) (by exact Nat.le_refl _) _

theorem part_nil (w : World) :
    Calls Try.prog 18 #[.pointer none] w fun e w' => e = .returned (.agg #[.int .i64 0, .int .i64 0]) ∧ w.grownBy w' none := by
  go_enter Try.func18, Try.ntmps18
  go_wp2_with fail
  refine (none_nil _).mono ?_
  rintro e w1 ⟨rfl, m1, rfl⟩
  go_wp2_with fail
  refine bodyPost_ret (v := .agg #[.int .i64 0, .int .i64 0]) (by simp [results, Try.results18, go_sem]) rfl ⟨rfl, ?_⟩
  refine grown_of_below _ ?_
  exact Below.setCell (Below.setCell (below_drewN ((Below.refl _ _).alloc (Nat.le_refl _) _) _) (by exact Nat.le_refl _) _) (by exact Nat.le_refl _) _

theorem at_nil (i : Int) (w : World) :
    Calls Try.prog 22 #[.pointer none, .int .i64 i] w fun e w' => e = .returned (.tuple #[.int .u8 0, .bool false]) ∧ ∃ m, w' = w.drewN m := by
  go_enter Try.func22, Try.ntmps22
  go_wp2_with fail
  refine (none_nil _).mono ?_
  rintro e w1 ⟨rfl, m1, rfl⟩
  go_wp2_with fail
  go_ret2
  exact ⟨rfl, _, rfl⟩

theorem at_out (a : Nat) {s o l} (i : Int) (w : World) (h : IsBuf w a s o l) (hi : i < 0 ∨ (l.length : Int) ≤ i) :
    Calls Try.prog 22 #[.pointer (some ⟨a, 0, none⟩), .int .i64 i] w fun e w' => e = .returned (.tuple #[.int .u8 0, .bool false]) ∧ ∃ m, w' = w.drewN m := by
  obtain ⟨r, f, hr, x⟩ := h.ex
  have h3 := hr.cheld
  clear hr x
  by_cases hz : i < 0
  · clear hi
    go_enter Try.func22, Try.ntmps22
    go_wp2_with fail
    refine (none_no _ _ h).mono ?_
    rintro e w1 ⟨rfl, m1, rfl⟩
    go_wp2_with fail
    go_ret2
    exact ⟨rfl, _, rfl⟩
  · have hj : (l.length : Int) ≤ i := by omega
    clear hi
    go_enter Try.func22, Try.ntmps22
    go_wp2_with fail
    refine (none_no _ _ h).mono ?_
    rintro e w1 ⟨rfl, m1, rfl⟩
    go_wp2_with fail
    go_ret2
    exact ⟨rfl, _, rfl⟩

set_option maxRecDepth 100000 in
theorem at_in (a : Nat) {s o l} (i : Nat) (w : World) (h : IsBuf w a s o l) (hi : i < l.length) :
    Calls Try.prog 22 #[.pointer (some ⟨a, 0, none⟩), .int .i64 i] w fun e w' => e = .returned (.tuple #[.int .u8 l[i].toNat, .bool true]) ∧ ∃ m, w' = w.drewN m := by
  obtain ⟨r, f, hr, hf, x⟩ := h.ex
  have h3 := hr.cheld
  have hs := h.lo
  have hs' := h.hi
  have hfit := h.fits
  have hp : (f + i) % s < 256 := Nat.lt_of_lt_of_le (Nat.mod_lt _ (by omega)) hs'
  have hx := x i hi
  clear x
  obtain ⟨p, hpe⟩ : ∃ p, p = (f + i) % s := ⟨_, rfl⟩
  rw [← hpe] at hp hx
  have HP := Lib.hid hpe
  clear hpe
  have HX := Lib.hid hx
  clear hx
  have hp1 : (p : Int) < 256 := by omega
  have hcr := hr.ring _ hp
  have hi0 : (0 : Int) ≤ i := by omega
  have hi1 : (i : Int) < l.length := by omega
  go_enter Try.func22, Try.ntmps22
  go_wp2_with fail
  refine (none_no _ _ h).mono ?_
  rintro e w1 ⟨rfl, m1, rfl⟩
  go_wp2_with fail
  go_quiet ((go_at_call 32; exact quiet_add (place_raw _ _ p _ (hr.drewN _) hs hs' hf (by omega) HP)))
  go_wp2
  go_ret2
  exact ⟨by rw [← HX.out]; rfl, m1 + nq, by simp [World.drewN_drewN]⟩

end Go.Proofs.Ytadoobkieehajaa
