/- The contract of Take. -/
import Derived.Test.YtadoobkieehajaaH
namespace Go.Proofs.Ytadoobkieehajaa
open Go.RowKit

theorem owns_take {w : World} {base g cap m : Nat} {xs : List Value} (n : Nat) (h : w.ownsRow base 5 1 (.slice (some ⟨g, 0, none⟩) m cap) m xs) (hn : n ≤ m) : w.ownsRow base 5 1 (.slice (some ⟨g, 0, none⟩) n cap) n (xs.take n) := by
  obtain ⟨hl, h⟩ := h
  refine ⟨by rw [List.length_take, hl]; omega, ?_⟩
  rcases h with ⟨h, _⟩ | ⟨g', cap', cur, hv, hb, hh, h1, h2, h3, h4⟩
  · cases h
  · simp only [Value.slice.injEq, Option.some.injEq, Addr.mk.injEq, and_true, true_and] at hv
    obtain ⟨rfl, rfl⟩ := hv
    refine .inr ⟨g, cap, cur, rfl, hb, hh, by omega, h2, h3, ?_⟩
    rw [← h4, List.take_take]
    congr 1
    omega

theorem owns_base {w : World} {base base' e size n : Nat} {v : Value} {xs : List Value} (h : w.ownsRow base e size v n xs) (hb : base' ≤ base) : w.ownsRow base' e size v n xs := by
  obtain ⟨hl, h⟩ := h
  refine ⟨hl, h.imp id ?_⟩
  rintro ⟨g, cap, cur, hv, hg, r⟩
  exact ⟨g, cap, cur, hv, Nat.le_trans hb hg, r⟩

theorem take_nil (n : Int) (w : World) :
    Calls Try.prog 13 #[.pointer none, .int .i64 n] w fun e w' => e = .returned (.tuple #[.slice none 0 0, .agg #[.int .i64 0, .int .i64 0], .int .i64 1]) ∧ w.grownBy w' none := by
  go_enter Try.func13, Try.ntmps13
  go_wp2_with fail
  refine (none_nil _).mono ?_
  rintro e w1 ⟨rfl, m1, rfl⟩
  go_wp2_with fail
  refine bodyPost_ret (v := .tuple #[.slice none 0 0, .agg #[.int .i64 0, .int .i64 0], .int .i64 1]) (by simp [results, Try.results13, go_sem]) rfl ⟨rfl, ?_⟩
  exact grown_setNew (grown_setNew (grown_draws (grown_alloc (grown_refl _ _) _) _) (Nat.le_refl _) _ _) (Nat.le_refl _) _ _

theorem take_bad (a : Nat) {s o l} (n : Int) (w : World) (h : IsBuf w a s o l) (hn : n < 0 ∨ (l.length : Int) < n) :
    Calls Try.prog 13 #[.pointer (some ⟨a, 0, none⟩), .int .i64 n] w fun e w' => e = .returned (.tuple #[.slice none 0 0, .agg #[.int .i64 0, .int .i64 0], .int .i64 2]) ∧ w.grownBy w' none := by
  obtain ⟨r, f, hr, hf, x⟩ := h.ex
  have hch := (hr.grown (World.grownBy_alloc w (.cells #[.int .i64 0, .int .i64 0] 31) none) (by simp)).cheld
  have ha := h.grown (World.grownBy_alloc w (.cells #[.int .i64 0, .int .i64 0] 31) none) (by simp)
  clear x hr
  by_cases hz : n < 0
  · clear hn
    go_enter Try.func13, Try.ntmps13
    go_wp2_with fail
    refine (none_no _ _ ha).mono ?_
    rintro e w1 ⟨rfl, m1, rfl⟩
    go_wp2_with fail
    refine bodyPost_ret (v := .tuple #[.slice none 0 0, .agg #[.int .i64 0, .int .i64 0], .int .i64 2]) (by simp [results, Try.results13, go_sem]) rfl ⟨rfl, ?_⟩
    exact grown_setNew (grown_setNew (grown_draws (grown_alloc (grown_refl _ _) _) _) (Nat.le_refl _) _ _) (Nat.le_refl _) _ _
  · have hj : (l.length : Int) < n := by omega
    clear hn
    go_enter Try.func13, Try.ntmps13
    go_wp2_with fail
    refine (none_no _ _ ha).mono ?_
    rintro e w1 ⟨rfl, m1, rfl⟩
    go_wp2_with fail
    refine bodyPost_ret (v := .tuple #[.slice none 0 0, .agg #[.int .i64 0, .int .i64 0], .int .i64 2]) (by simp [results, Try.results13, go_sem]) rfl ⟨rfl, ?_⟩
    exact grown_setNew (grown_setNew (grown_draws (grown_alloc (grown_refl _ _) _) _) (Nat.le_refl _) _ _) (Nat.le_refl _) _ _

theorem take_ok (a : Nat) {s o l} (n : Nat) (w : World) (h : IsBuf w a s o l) (hn : n ≤ l.length) :
    Calls Try.prog 13 #[.pointer (some ⟨a, 0, none⟩), .int .i64 n] w fun e w' => ∃ g cap, e = .returned (.tuple #[.slice (some ⟨g, 0, none⟩) n cap, .agg #[.int .i64 o, .int .i64 (o + n)], .int .i64 0]) ∧
      w'.ownsRow w.heap.size 5 1 (.slice (some ⟨g, 0, none⟩) n cap) n ((l.take n).map B) ∧ IsBuf w' a s (o + n) (l.drop n) ∧ w.grownBy w' (some a) := by
  obtain ⟨r, f, hr, hf, x⟩ := h.ex
  have hlt := hr.lt
  have hne : w.heap.size ≠ a := by omega
  have g0 := World.grownBy_alloc w (.cells #[.int .i64 0, .int .i64 0] 31) none
  have hch := (hr.grown g0 (by simp)).cheld
  have ha := h.grown g0 (by simp)
  have hb0 : Two (w.alloc (.cells #[.int .i64 0, .int .i64 0] 31)) w.heap.size 0 0 := ⟨heap_alloc_new _ _⟩
  have hsz : (w.alloc (.cells #[.int .i64 0, .int .i64 0] 31)).heap.size = w.heap.size + 1 := by simp
  have hi0 : (0 : Int) ≤ n := by omega
  have hi1 : (n : Int) ≤ l.length := by omega
  clear x hr
  go_enter Try.func13, Try.ntmps13
  go_wp2_with fail
  generalize w.alloc (.cells #[.int .i64 0, .int .i64 0] 31) = W at ha hb0 hch hsz g0 ⊢
  have HSZ := Lib.hid hsz
  clear hsz
  refine (none_no _ _ ha).mono ?_
  rintro e w1 ⟨rfl, m1, rfl⟩
  go_wp2_with fail
  refine (bytes_any _ _ (ha.drewN m1)).mono ?_
  rintro e w2 ⟨g, cap, rfl, hrow, g2⟩
  have g3 := grown_trans (grown_draws g0 m1) g2
  have ha2 := (ha.drewN m1).grown g2 (by simp)
  have hb2 := (hb0.of_block (w' := W.drewN m1) (by rw [World.heap_drewN])).grown g2 (by simp)
  rw [World.heap_drewN, HSZ.out] at hrow
  have hgb := hrow.lt g rfl
  have hcap : (l.length : Nat) ≤ cap := by
    obtain ⟨_, h | ⟨g', cap', cur, hv, _, _, h1, _⟩⟩ := hrow
    · cases h.1
    · simp only [Value.slice.injEq] at hv
      omega
  have hi2 : (n : Int) ≤ cap := by omega
  clear hch ha hb0 g2 g0
  go_wp2_with fail
  refine (drop_any _ _ _ ha2 hn).mono ?_
  rintro e w3 ⟨rfl, hd, gd⟩
  have hb3 := hb2.grown gd (by simpa using hne)
  have hrow3 := (owns_take n hrow hn).kept gd (.inr (by show some g ≠ some a; simp; omega))
  have g4 := grown_trans (grown_any (some a) g3) gd
  clear ha2 hb2 hrow g3 gd
  have e0 := hb3.c0
  have e1 := hb3.c1
  have e2 := hb3.free 0
  have e3 := hb3.free 1
  go_wp2_with fail
  refine bodyPost_ret (v := .tuple #[.slice (some ⟨g, 0, none⟩) n cap, .agg #[.int .i64 o, .int .i64 (o + n)], .int .i64 0]) (by simp [results, Try.results13, go_sem, e0, e1]) rfl ⟨g, cap, rfl, ?_, ?_, ?_⟩
  · have := ((hrow3.kept (grown_setCell _ w.heap.size 0 (.int .i64 o)) (.inr (by show some g ≠ some w.heap.size; simp; omega))).kept (grown_setCell _ w.heap.size 1 (.int .i64 (o + n))) (.inr (by show some g ≠ some w.heap.size; simp; omega)))
    rw [List.map_take]
    exact owns_base this (by omega)
  · exact hd.of_block (by rw [heap_far hne, heap_far hne])
  · exact grown_setNew (grown_setNew g4 (Nat.le_refl _) _ _) (Nat.le_refl _) _ _
end Go.Proofs.Ytadoobkieehajaa
