/- The contracts of Discard and Copy. -/
import Derived.Test.YtadoobkieehajaaE
namespace Go.Proofs.Ytadoobkieehajaa
open Go.RowKit

theorem discard_nil (w : World) :
    Calls Try.prog 16 #[.pointer none] w fun e w' => e = .returned (.tuple #[.agg #[.int .i64 0, .int .i64 0], .int .i64 1]) ∧ w.grownBy w' none := by
  go_enter Try.func16, Try.ntmps16
  go_wp2_with fail
  refine (none_nil _).mono ?_
  rintro e w1 ⟨rfl, m1, rfl⟩
  go_wp2_with fail
  refine bodyPost_ret (v := .tuple #[.agg #[.int .i64 0, .int .i64 0], .int .i64 1]) (by simp [results, Try.results16, go_sem]) rfl ⟨rfl, ?_⟩
  exact grown_setNew (grown_setNew (grown_draws (grown_alloc (grown_refl _ _) _) _) (Nat.le_refl _) _ _) (Nat.le_refl _) _ _

theorem discard_room (a : Nat) {s o l} (w : World) (h : IsBuf w a s o l) (hl : l.length < s) :
    Calls Try.prog 16 #[.pointer (some ⟨a, 0, none⟩)] w fun e w' => e = .returned (.tuple #[.agg #[.int .i64 0, .int .i64 0], .int .i64 310]) ∧ w.grownBy w' none := by
  have hb : ((l.length : Int) == s) = false := by simp; omega
  have HB := Lib.hid hb
  clear hb
  go_enter Try.func16, Try.ntmps16
  go_wp2_with fail
  refine (none_no _ _ (h.grown (World.grownBy_alloc _ _ none) (by simp))).mono ?_
  rintro e w1 ⟨rfl, m1, rfl⟩
  go_wp2_with fail
  refine (full_any _ _ ((h.grown (World.grownBy_alloc _ _ none) (by simp)).drewN _)).mono ?_
  rintro e w1 ⟨rfl, m2, rfl⟩
  rw [HB.out]
  go_wp2_with fail
  refine bodyPost_ret (v := .tuple #[.agg #[.int .i64 0, .int .i64 0], .int .i64 310]) (by simp [results, Try.results16, go_sem]) rfl ⟨rfl, ?_⟩
  exact grown_setNew (grown_setNew (grown_draws (grown_alloc (grown_refl _ _) _) _) (Nat.le_refl _) _ _) (Nat.le_refl _) _ _

theorem discard_full (a : Nat) {s o l} (w : World) (h : IsBuf w a s o l) (hl : l.length = s) :
    Calls Try.prog 16 #[.pointer (some ⟨a, 0, none⟩)] w fun e w' => e = .returned (.tuple #[.agg #[.int .i64 o, .int .i64 (o + ((s + 1) / 2 : Nat))], .int .i64 0]) ∧
      IsBuf w' a s (o + (s + 1) / 2) (l.drop ((s + 1) / 2)) ∧ w.grownBy w' (some a) := by
  have hb : ((l.length : Int) == s) = true := by simp; omega
  have HB := Lib.hid hb
  have hle : (s + 1) / 2 ≤ l.length := by have := h.lo; omega
  clear hb hl
  obtain ⟨r, f, hr, hf, x⟩ := h.ex
  have hs := h.lo
  have hs' := h.hi
  have hlt := hr.lt
  have hne : w.heap.size ≠ a := by omega
  have hq : IntKind.i64.wrap ((s : Int) + 1) = s + 1 := IntWalk.i64_in _ (by omega)
  go_enter Try.func16, Try.ntmps16
  go_wp2_with fail
  have hb0 : Two (w.alloc (.cells #[.int .i64 0, .int .i64 0] 31)) w.heap.size 0 0 := ⟨heap_alloc_new _ _⟩
  have ha := h.grown (World.grownBy_alloc w (.cells #[.int .i64 0, .int .i64 0] 31) none) (by simp)
  have g0 := World.grownBy_alloc w (.cells #[.int .i64 0, .int .i64 0] 31) (some a)
  have hsz := (hr.grown (World.grownBy_alloc w (.cells #[.int .i64 0, .int .i64 0] 31) none) (by simp)).csize
  clear hr x
  generalize w.alloc (.cells #[.int .i64 0, .int .i64 0] 31) = W at hb0 ha g0 hsz ⊢
  refine (none_no _ _ ha).mono ?_
  rintro e w1 ⟨rfl, m1, rfl⟩
  go_wp2_with fail
  refine (full_any _ _ (ha.drewN _)).mono ?_
  rintro e w1 ⟨rfl, m2, rfl⟩
  rw [HB.out]
  go_wp2_with fail
  rw [show (((s : Int) + 1) / 2) = ((s + 1) / 2 : Nat) by omega]
  refine (drop_any _ _ _ (ha.drewN _) hle).mono ?_
  rintro e w1 ⟨rfl, hd, gd⟩
  have hb1 := (hb0.of_block (w' := W.drewN (m1 + m2)) (by rw [World.heap_drewN])).grown gd (by simpa using hne)
  have g1 := grown_trans (grown_draws g0 (m1 + m2)) gd
  clear ha hsz gd
  have e0 := hb1.c0
  have e1 := hb1.c1
  have e2 := hb1.free 0
  have e3 := hb1.free 1
  go_wp2_with fail
  refine bodyPost_ret (v := .tuple #[.agg #[.int .i64 o, .int .i64 (o + ((s + 1) / 2 : Nat))], .int .i64 0]) (by simp [results, Try.results16, go_sem, e0, e1]) rfl ⟨rfl, ?_, ?_⟩
  · exact hd.of_block (by rw [heap_far hne, heap_far hne])
  · exact grown_setNew (grown_setNew g1 (Nat.le_refl _) _ _) (Nat.le_refl _) _ _

theorem Raw.one {w : World} {a r s f h o} (k : Raw w a r s f h o) {cs : Array Value} (hb : w.heap[a]? = some (.cells cs 61 (0, 0))) (hs : cs.size = 260) : cs.all (·.oneCell') = true := by
  rw [Array.all_eq_true]
  intro i hi
  have hc : w.cell? ⟨a, i, none⟩ = some cs[i] := by rw [cell_of_block hb]; simp [hi]
  by_cases h1 : i < 256
  · rw [k.ring i h1] at hc; rw [← Option.some.inj hc]; rfl
  · have : i = 256 ∨ i = 257 ∨ i = 258 ∨ i = 259 := by omega
    rcases this with rfl | rfl | rfl | rfl
    · rw [k.csize] at hc; rw [← Option.some.inj hc]; rfl
    · rw [k.cfirst] at hc; rw [← Option.some.inj hc]; rfl
    · rw [k.cheld] at hc; rw [← Option.some.inj hc]; rfl
    · rw [k.corg] at hc; rw [← Option.some.inj hc]; rfl

theorem Raw.copied {w w' : World} {a b r s f h o} (k : Raw w a r s f h o) {cs : Array Value} (hb : w.heap[a]? = some (.cells cs 61 (0, 0))) (hs : cs.size = 260) (hn : w'.heap[b]? = some (.cells cs 61 (0, 0))) : Raw w' b r s f h o := by
  have e : ∀ i, w'.cell? ⟨b, i, none⟩ = w.cell? ⟨a, i, none⟩ := fun i => by rw [cell_of_block hn, cell_of_block hb]
  exact ⟨⟨cs, hn, hs⟩, fun i hi => (e i).trans (k.ring i hi), (e _).trans k.csize, (e _).trans k.cfirst, (e _).trans k.cheld, (e _).trans k.corg⟩

theorem copy_nil (w : World) : Calls Try.prog 26 #[.pointer none] w fun e w' => e = .returned (.pointer none) ∧ ∃ m, w' = w.drewN m := by
  go_enter Try.func26, Try.ntmps26
  go_wp2_with fail
  refine (none_nil _).mono ?_
  rintro e w1 ⟨rfl, m1, rfl⟩
  go_wp2_with fail
  go_ret
  exact ⟨rfl, _, rfl⟩

set_option maxRecDepth 100000 in
set_option maxHeartbeats 1000000 in
theorem copy_any (a : Nat) {s o l} (w : World) (h : IsBuf w a s o l) :
    Calls Try.prog 26 #[.pointer (some ⟨a, 0, none⟩)] w fun e w' => e = .returned (.pointer (some ⟨w.heap.size, 0, none⟩)) ∧ IsBuf w' w.heap.size s o l ∧ w.grownBy w' none := by
  have hz := Z_run
  obtain ⟨r, f, hr, hf, x⟩ := h.ex
  obtain ⟨cs, hb, hs⟩ := hr.blk
  have h1 := hr.one hb hs
  have HX := Lib.hid x
  have HS := Lib.hid hs
  have HB := Lib.hid hb
  have H1 := Lib.hid h1
  clear hb hs h1 x
  go_enter Try.func26, Try.ntmps26
  go_wp2_with fail
  refine (none_no _ _ h).mono ?_
  rintro e w1 ⟨rfl, m1, rfl⟩
  have hb1 : (w.drewN m1).heap[a]? = some (.cells cs 61 (0, 0)) := by rw [World.heap_drewN]; exact HB.out
  have hr1 := hr.drewN m1
  have gw := grown_drewN w m1 none
  have hsz : (w.drewN m1).heap.size = w.heap.size := by rw [World.heap_drewN]
  have HB1 := Lib.hid hb1
  have HSZ := Lib.hid hsz
  generalize w.drewN m1 = W at HB1 hr1 gw HSZ ⊢
  clear hb1 hsz
  go_wp2_with (first | (refine wpList_load_row rfl 61 _ rfl a rfl 61 cs (0, 0) _ HB1.out Try.underlying61 rfl (by rw [HS.out]; kernel_rfl) ?_) | (refine wpList_store_row rfl 61 _ _ rfl W.heap.size cs rfl rfl 61 Z (heap_alloc_new _ _) (by rw [HS.out]; kernel_rfl) (by rw [HS.out, Z_size]) H1.out ?_))
  go_ret
  rw [HSZ.out]
  have hnew : ((W.alloc (.cells Z 61)).setRow W.heap.size cs).heap[w.heap.size]? = some (.cells cs 61 (0, 0)) := by
    rw [← HSZ.out]; exact setRow_heap _ _ _ _ _ _ (heap_alloc_new _ _)
  rw [HSZ.out] at hnew
  refine ⟨rfl, ⟨⟨r, f, hr1.copied HB1.out HS.out hnew, hf, HX.out⟩, h.lo, h.hi, h.fits, h.most⟩, grown_trans gw (grown_of_below _ ?_)⟩
  refine ⟨rfl, rfl, rfl, ?_, fun k hk => ?_⟩
  · simp
  · rw [HSZ.out] at hk
    rw [setRow_other _ _ _ _ (by omega)]
    exact Below.heap_alloc _ _ _ (by rw [HSZ.out]; exact hk)
end Go.Proofs.Ytadoobkieehajaa
