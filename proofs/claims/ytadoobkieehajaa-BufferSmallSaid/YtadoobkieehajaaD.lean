/- The contracts of drop, Discard, New, Copy. -/
import Derived.Test.YtadoobkieehajaaC
import Derived.Test.YtadoobkieehajaaQ
namespace Go.Proofs.Ytadoobkieehajaa
open Go.RowKit

set_option maxRecDepth 100000 in
theorem drop_any (a : Nat) {s o l} (n : Nat) (w : World) (h : IsBuf w a s o l) (hn : n ≤ l.length) :
    Calls Try.prog 30 #[.pointer (some ⟨a, 0, none⟩), .int .i64 n] w fun e w' => e = .returned (.agg #[.int .i64 o, .int .i64 (o + n)]) ∧ IsBuf w' a s (o + n) (l.drop n) ∧ w.grownBy w' (some a) := by
  obtain ⟨r, f, hr, hf, x⟩ := h.ex
  have hs := h.lo
  have hs' := h.hi
  have hfit := h.fits
  have hm := h.most
  have hne : w.heap.size ≠ a := by have := hr.lt; omega
  have hne1 : w.heap.size + 1 ≠ a := by have := hr.lt; omega
  have hp : (f + n) % s < 256 := Nat.lt_of_lt_of_le (Nat.mod_lt _ (by omega)) hs'
  obtain ⟨p, hpe⟩ : ∃ p, p = (f + n) % s := ⟨_, rfl⟩
  rw [← hpe] at hp
  have HP := Lib.hid hpe
  have HX := Lib.hid x
  clear hpe x
  have h3 := hr.cheld
  have h4 := hr.corg
  have hs1 : IntKind.i64.wrap ((o : Int) + n) = o + n := IntWalk.i64_in _ (by omega)
  have hs2 : IntKind.i64.wrap ((l.length : Int) - n) = l.length - n := IntWalk.i64_in _ (by omega)
  go_enter Try.func30, Try.ntmps30
  go_wp2_with fail
  go_region_held3 (fun w' => w'.cell? ⟨a, 259, none⟩ = some (.int .i64 o) ∧ w'.cell? ⟨a, 258, none⟩ = some (.int .i64 l.length)) (go_keep) (fail)
  go_wp2_with fail
  generalize hW : ((w.alloc (.cells #[.int .i64 0, .int .i64 0] 31)).alloc (.cells #[.int .i64 o, .int .i64 (o + n)] 31)).drew = W
  have hrW : Raw W a r s f l.length o := by rw [← hW]; exact hr.of_block ((((Below.refl w.heap.size w).alloc (Nat.le_refl _) _).alloc (by simp) _).drew.block a hr.lt)
  have hb0 : Two W w.heap.size 0 0 := ⟨by rw [← hW]; exact ((((Below.refl (w.heap.size + 1) (w.alloc (.cells #[.int .i64 0, .int .i64 0] 31))).alloc (by simp) _).drew.block w.heap.size (by omega))).trans (heap_alloc_new _ _)⟩
  have hb1 : Two W (w.heap.size + 1) o (o + n) := ⟨by rw [← hW]; have := heap_alloc_new (w.alloc (.cells #[.int .i64 0, .int .i64 0] 31)) (.cells #[.int .i64 o, .int .i64 (o + n)] 31); rw [World.size_alloc] at this; exact this⟩
  have HW := Lib.hid hW
  clear hW
  have h5 := hrW.cheld
  have h6 : W.cell? ⟨w.heap.size + 1, 1, none⟩ = some (.int .i64 (o + n)) := by rw [← HW.out]; simp
  refine region_ord [(1, none), (2, none), (6, none), (7, none), (8, none), (9, some 0), (10, none), (11, none), (12, none), (13, some 1)] [0, 3, 4, 5, 14, 15] [(16, [0, 1]), (17, [1]), (18, [1]), (19, [1]), (20, []), (21, []), (22, [])]
    (fun k w' => match k with | 0 => w'.cell? ⟨a, 258, none⟩ = some (.int .i64 l.length) | _ => w'.cell? ⟨w.heap.size + 1, 1, none⟩ = some (.int .i64 (o + n))) (by kernel_rfl) (by kernel_rfl) (fun k m => by
      cases k with | zero => simpa using h5 | succ k => simpa using h6) ?_
  simp only [pickK, pick, List.filterMap_cons, List.filterMap_nil, List.getElem?_toArray, List.getElem?_cons_zero, List.getElem?_cons_succ, Option.map_some]
  iterate 5 (refine lates_none (fun K hK => ?_); go_simp; refine hK _ ?_; clear hK K)
  refine lates_val (.int .i64 l.length) (by rfl) (fun w' hw' => ?_) (fun K hK => ?_)
  · have hw2 : w'.cell? ⟨a, 258, none⟩ = some (.int .i64 l.length) := hw'
    clear hw'
    go_simp
  go_simp; refine hK _ ?_; clear hK K
  iterate 3 (refine lates_none (fun K hK => ?_); go_simp; refine hK _ ?_; clear hK K)
  refine lates_val (.int .i64 (o + n)) (by rfl) (fun w' hw' => ?_) (fun K hK => ?_)
  · have hw2 : w'.cell? ⟨w.heap.size + 1, 1, none⟩ = some (.int .i64 (o + n)) := hw'
    clear hw'
    go_simp
  go_simp; refine hK _ ?_; clear hK K
  refine lates_nil ?_
  change wpQuiet _ _ _ _ [_, _, _, _, _, _] _
  repeat (go_big_quiet_step ((go_at_call 32; exact Calls.quiet_of (place_raw _ _ p _ (hrW.drewN _) hs hs' hf (by omega) HP))))
  refine wpQuiet_nil ?_
  rintro _ ⟨nq, rfl⟩
  have hr1 := hrW.drewN nq
  have hf1 := hr1.free 257
  have hc1 := hr1.cfirst
  refine tail_step fun K hK => ?_
  go_wp2
  have hr2 := hr1.setFirst p
  have hg2 : ((W.drewN nq).setCell ⟨a, 257, none⟩ (.int .i64 p)).cell? ⟨w.heap.size + 1, 1, none⟩ = some (.int .i64 (o + n)) := by rw [cell_far (fun e => hne1 e.symm), World.cell?_drewN]; exact h6
  refine hK _ _ (keep2 hr2.cheld hg2) ?_
  clear hK K
  have hc2 := hr2.cheld
  have hf2 := hr2.free 258
  iterate 2
    refine tail_step fun K hK => ?_
    go_wp2
    refine hK _ _ (keep1 hg2) ?_
    clear hK K
  refine tail_step fun K hK => ?_
  go_wp2
  have hg3 := (cell_far (w := (W.drewN nq).setCell ⟨a, 257, none⟩ (.int .i64 p)) (i := 258) (v := .int .i64 (l.length - n)) (fun e => hne1 e.symm)).trans hg2
  refine hK _ _ (keep1 hg3) ?_
  clear hK K
  have hr3 := hr2.setHeld' (l.length - n) (z := l.length - n) (by omega)
  iterate 2
    refine tail_step fun K hK => ?_
    go_wp2
    refine hK _ _ keep0 ?_
    clear hK K
  have hc3 := hr3.corg
  have hf3 := hr3.free 259
  refine tail_step fun K hK => ?_
  go_wp2
  refine hK _ _ keep0 ?_
  clear hK K
  refine tail_nil ?_
  have hr4 := hr3.setOrg' (o + n) (z := o + n) (by omega)
  have hb0' := hb0.of_block (w' := (((W.drewN nq).setCell ⟨a, 257, none⟩ (.int .i64 p)).setCell ⟨a, 258, none⟩ (.int .i64 (l.length - n))).setCell ⟨a, 259, none⟩ (.int .i64 (o + n))) (by rw [heap_far (Ne.symm hne), heap_far (Ne.symm hne), heap_far (Ne.symm hne), World.heap_drewN])
  have hb1' := hb1.of_block (w' := (((W.drewN nq).setCell ⟨a, 257, none⟩ (.int .i64 p)).setCell ⟨a, 258, none⟩ (.int .i64 (l.length - n))).setCell ⟨a, 259, none⟩ (.int .i64 (o + n))) (by rw [heap_far (Ne.symm hne1), heap_far (Ne.symm hne1), heap_far (Ne.symm hne1), World.heap_drewN])
  have g4 : W.grownBy ((((W.drewN nq).setCell ⟨a, 257, none⟩ (.int .i64 p)).setCell ⟨a, 258, none⟩ (.int .i64 (l.length - n))).setCell ⟨a, 259, none⟩ (.int .i64 (o + n))) (some a) :=
    grown_trans (grown_trans (grown_trans (grown_drewN _ _ _) (grown_setCell _ _ _ _)) (grown_setCell _ _ _ _)) (grown_setCell _ _ _ _)
  generalize (((W.drewN nq).setCell ⟨a, 257, none⟩ (.int .i64 p)).setCell ⟨a, 258, none⟩ (.int .i64 (l.length - n))).setCell ⟨a, 259, none⟩ (.int .i64 (o + n)) = X at hr4 hb0' hb1' g4 ⊢
  clear hr1 hf1 hc1 hr2 hg2 hc2 hf2 hg3 hr3 hc3 hf3 h5 h6 h3 h4
  have e0 := hb0'.c0
  have e1 := hb0'.c1
  have e2 := hb0'.free 0
  have e3 := hb0'.free 1
  have e4 := hb1'.c0
  have e5 := hb1'.c1
  go_wp2
  have g5 : w.grownBy X (some a) := by
    rw [← HW.out] at g4
    exact grown_trans (grown_drew (grown_alloc (grown_alloc (grown_refl _ _) _) _)) g4
  refine bodyPost_ret (v := .agg #[.int .i64 o, .int .i64 (o + n)]) (by simp [results, Try.results30, go_sem, e0, e1]) rfl ⟨rfl, ⟨⟨r, p, ?_, ?_, ?_⟩, hs, hs', ?_, ?_⟩, ?_⟩
  · rw [List.length_drop]
    exact hr4.of_block (by rw [heap_far hne, heap_far hne])
  · rw [HP.out]; exact Nat.mod_lt _ (by omega)
  · intro i hi
    rw [List.length_drop] at hi
    rw [List.getElem_drop, ← HX.out (n + i) (by omega), HP.out, Nat.mod_add_mod, Nat.add_assoc]
  · rw [List.length_drop]; omega
  · rw [List.length_drop]; omega
  · exact grown_setNew (grown_setNew g5 (Nat.le_refl _) _ _) (Nat.le_refl _) _ _
end Go.Proofs.Ytadoobkieehajaa
