/- What is told of a buffer is what the reference's buffer holds: any index. -/
import Derived.Test.YtadoobkieehajaaYc
import Derived.Test.YtadoobkieehajaaYd
namespace Go.Proofs.Ytadoobkieehajaa
open Go.RowKit Go.Shelf

set_option maxRecDepth 100000 in
set_option maxHeartbeats 4000000 in
theorem told_over (b s o g n cap : Nat) (ad : Option Addr) (all : List UInt8) (i : Int) (w : World) (hB : IsBuf w b s (o + g) (all.drop g)) (hR : RefS w b ad n cap g all) (hn : n ≤ 100000) (ho1 : (o : Int) ≤ 281474976710656) (hi0 : 0 ≤ i) (hi : ((n - g : Nat) : Int) ≤ i) :
    Calls Try.prog 34 #[.pointer (some ⟨b, 0, none⟩), .agg #[.int .i64 s, .int .i64 o, .slice ad n cap, .int .i64 g], .int .i64 i] w fun e w' => e = .returned (.bool true) ∧ w.grownBy w' none := by
  have gC := World.grownBy_alloc w (.cells #[.int .i64 s, .int .i64 o, .slice ad n cap, .int .i64 g] 72) none
  have F : Four (w.alloc (.cells #[.int .i64 s, .int .i64 o, .slice ad n cap, .int .i64 g] 72)) w.heap.size s o ad n cap g := ⟨World.alloc_heap_new _ _⟩
  have hln := hR.held_len
  have hgn := hR.le
  have hgb : g ≤ 100000 := by omega
  have ho0 : (0 : Int) ≤ o := by omega
  have hcp := hR.fits
  have hog : ((o + g : Nat) : Int) = o + g := by omega
  replace hB := hB.grown gC (by simp)
  replace hR := hR.grown gC (.inl rfl)
  go_enter Try.func34, Try.ntmps34
  go_wp2_with fail
  generalize w.alloc (.cells #[.int .i64 s, .int .i64 o, .slice ad n cap, .int .i64 g] 72) = w1 at gC hR hB F ⊢
  generalize hx : w.heap.size = x at F ⊢
  have HX := Lib.hid hx
  clear hx
  refine (held_any s o b ad n cap g all w1 hR).mono ?_
  rintro e w2 ⟨rfl, g2⟩
  replace F := F.grown g2 (by simp)
  replace hB := hB.grown g2 (by simp)
  replace hR := hR.grown g2 (.inl rfl)
  replace gC := grown_trans gC g2
  clear g2
  go_wp2_with fail
  refine (bytes_any _ _ hB).mono ?_
  rintro e w3 ⟨ga, ca, rfl, os, g3⟩
  rw [hln] at os ⊢
  have hgx : w.heap.size ≤ ga := Nat.le_trans gC.size (os.lt ga rfl).1
  replace F := F.grown g3 (by simp)
  replace hB := hB.grown g3 (by simp)
  replace hR := hR.grown g3 (.inl rfl)
  replace gC := grown_trans gC g3
  clear g3
  go_wp2_with fail
  refine (at_out b i w3 hB (by rw [hln]; omega)).mono ?_
  rintro e w4 ⟨rfl, m4, hm4⟩
  have g4 := (by rw [hm4]; exact grown_drewN _ m4 none : w3.grownBy w4 none)
  clear hm4
  replace F := F.grown g4 (by simp)
  replace hB := hB.grown g4 (by simp)
  replace hR := hR.grown g4 (.inl rfl)
  replace os := os.kept g4 (Classical.em _)
  replace gC := grown_trans gC g4
  clear g4
  have hE : True ∧ True := ⟨trivial, trivial⟩
  have hHd := hR.held
  have hd : decide (i < (n - g : Nat)) = false := by simp; omega
  go_wp2_with fail
  generalize hW4 : w4 = W4 at F hB hR os gC hE hHd ⊢
  clear hW4
  refine region_mix [(0, .inl none), (1, .inl none), (2, .inr [0]), (3, .inl none), (4, .inl none), (5, .inl none), (6, .inl none), (7, .inl none), (8, .inl none), (9, .inl none), (10, .inl none), (11, .inl none), (12, .inl none), (13, .inl none), (14, .inl none), (15, .inl none), (16, .inl (some 0)), (17, .inl none), (18, .inl none), (19, .inl none), (20, .inl none), (21, .inl none), (22, .inl none), (23, .inl none), (24, .inl none), (25, .inl none), (26, .inl none), (27, .inl none), (28, .inl none), (29, .inl none), (31, .inl (some 0)), (30, .inr [0]), (32, .inr [0]), (33, .inl none), (34, .inl none), (35, .inl none), (36, .inl none), (38, .inl none), (39, .inl (some 0)), (37, .inr [0]), (40, .inl none), (41, .inl none), (42, .inl none), (43, .inl none), (45, .inl (some 0)), (47, .inl (some 0)), (49, .inl none), (50, .inl none), (44, .inr [0]), (46, .inr [0]), (48, .inr [0]), (51, .inl none), (52, .inl none), (53, .inl none), (54, .inl none)]
    (fun _ W => W.cell? ⟨x, 0, none⟩ = some (.int .i64 s) ∧ W.cell? ⟨x, 1, none⟩ = some (.int .i64 o) ∧ W.cell? ⟨x, 2, none⟩ = some (.slice ad n cap) ∧ W.cell? ⟨x, 3, none⟩ = some (.int .i64 g) ∧ True) (by kernel_rfl) (by kernel_rfl) (fun _ => ⟨F.c0, F.c1, F.c2, F.c3, hE.2⟩) ?_
  simp only [pickK, List.filterMap_cons, List.filterMap_nil, List.getElem?_toArray, List.getElem?_cons_zero, List.getElem?_cons_succ, Option.map_some]
  have gn := grown_drewN W4 1 none
  replace F := F.grown gn (by simp)
  replace hHd := hHd.below (below_of_grown gn) (Nat.le_refl _)
  replace hB := hB.grown gn (by simp)
  replace hR := hR.grown gn (.inl rfl)
  replace os := os.kept gn (Classical.em _)
  replace gC := grown_trans gC gn
  clear gn
  generalize W4.drewN 1 = w5 at F hB hR os gC hE hHd ⊢
  refine mix_free (fun K hK => ?_)
  go_simp
  refine hK _ ?_
  clear hK K
  refine mix_free (fun K hK => ?_)
  go_simp
  refine hK _ ?_
  clear hK K
  refine mix_step (fun K hK => ?_) (keep1 ⟨F.c0, F.c1, F.c2, F.c3, hE.2⟩)
  go_wp2_with fail
  refine (equal_any (all.drop g) (all.drop g) _ _ _ _ _ _ _ ?hn ?hm (slc_of_owns os).1 hHd).mono ?_
  case hn => exact hln
  case hm => exact hln
  rintro e _ ⟨rfl, rfl⟩
  rw [show (all.drop g == all.drop g) = true by simp]
  go_wp2_with fail
  refine hK _ _ (keep1 ⟨F.c0, F.c1, F.c2, F.c3, hE.2⟩) ?_
  clear hK K
  refine mix_free (fun K hK => ?_)
  go_simp
  refine hK _ ?_
  clear hK K
  refine mix_free (fun K hK => ?_)
  go_simp
  refine hK _ ?_
  clear hK K
  refine mix_free (fun K hK => ?_)
  go_simp
  refine hK _ ?_
  clear hK K
  refine mix_free (fun K hK => ?_)
  go_simp
  refine hK _ ?_
  clear hK K
  refine mix_free (fun K hK => ?_)
  go_simp
  refine hK _ ?_
  clear hK K
  refine mix_free (fun K hK => ?_)
  go_simp
  refine hK _ ?_
  clear hK K
  refine mix_free (fun K hK => ?_)
  go_simp
  refine hK _ ?_
  clear hK K
  refine mix_free (fun K hK => ?_)
  go_simp
  refine hK _ ?_
  clear hK K
  refine mix_free (fun K hK => ?_)
  go_simp
  refine hK _ ?_
  clear hK K
  refine mix_free (fun K hK => ?_)
  go_simp
  refine hK _ ?_
  clear hK K
  refine mix_free (fun K hK => ?_)
  go_simp
  refine hK _ ?_
  clear hK K
  refine mix_free (fun K hK => ?_)
  go_simp
  refine hK _ ?_
  clear hK K
  refine mix_free (fun K hK => ?_)
  go_simp
  refine hK _ ?_
  clear hK K
  refine mix_load (fun K hK => ?_)
  go_simp
  refine hK _ ?_
  clear hK K
  refine mix_free (fun K hK => ?_)
  go_simp
  refine hK _ ?_
  clear hK K
  refine mix_free (fun K hK => ?_)
  go_simp
  refine hK _ ?_
  clear hK K
  refine mix_free (fun K hK => ?_)
  go_simp
  refine hK _ ?_
  clear hK K
  refine mix_free (fun K hK => ?_)
  go_simp
  refine hK _ ?_
  clear hK K
  refine mix_free (fun K hK => ?_)
  go_simp
  refine hK _ ?_
  clear hK K
  refine mix_free (fun K hK => ?_)
  go_simp
  refine hK _ ?_
  clear hK K
  refine mix_free (fun K hK => ?_)
  go_simp
  refine hK _ ?_
  clear hK K
  refine mix_free (fun K hK => ?_)
  go_simp
  refine hK _ ?_
  clear hK K
  refine mix_free (fun K hK => ?_)
  go_simp
  refine hK _ ?_
  clear hK K
  refine mix_free (fun K hK => ?_)
  go_simp
  refine hK _ ?_
  clear hK K
  refine mix_free (fun K hK => ?_)
  go_simp
  refine hK _ ?_
  clear hK K
  refine mix_free (fun K hK => ?_)
  go_simp
  refine hK _ ?_
  clear hK K
  refine mix_free (fun K hK => ?_)
  go_simp
  refine hK _ ?_
  clear hK K
  refine mix_val (.agg #[.int .i64 s, .int .i64 o, .slice ad n cap, .int .i64 g]) (by rfl) (fun w' hw' => ?_) (fun K hK => ?_)
  · obtain ⟨p0, p1, p2, p3, p4⟩ := hw'
    go_simp
  go_simp
  refine hK _ ?_
  clear hK K
  refine mix_step (fun K hK => ?_) (keep1 ⟨F.c0, F.c1, F.c2, F.c3, hE.2⟩)
  go_wp2_with fail
  refine (full_any _ _ hB).mono ?_
  rintro e wn ⟨rfl, mn, hmn⟩
  have gn := (by rw [hmn]; exact grown_drewN _ mn none : World.grownBy _ wn none)
  clear hmn
  replace F := F.grown gn (by simp)
  replace hHd := hHd.below (below_of_grown gn) (Nat.le_refl _)
  replace hB := hB.grown gn (by simp)
  replace hR := hR.grown gn (.inl rfl)
  replace os := os.kept gn (Classical.em _)
  replace gC := grown_trans gC gn
  clear gn
  rw [hln]
  go_wp2_with fail
  refine hK _ _ (keep1 ⟨F.c0, F.c1, F.c2, F.c3, hE.2⟩) ?_
  clear hK K
  refine mix_step (fun K hK => ?_) (keep1 ⟨F.c0, F.c1, F.c2, F.c3, hE.2⟩)
  go_wp2_with fail
  refine (full_ref s o b ad n cap g all _ hR).mono ?_
  rintro e wn ⟨rfl, gn⟩
  replace F := F.grown gn (by simp)
  replace hHd := hHd.below (below_of_grown gn) (Nat.le_refl _)
  replace hB := hB.grown gn (by simp)
  replace hR := hR.grown gn (.inl rfl)
  replace os := os.kept gn (Classical.em _)
  replace gC := grown_trans gC gn
  clear gn
  go_wp2_with fail
  refine hK _ _ (keep1 ⟨F.c0, F.c1, F.c2, F.c3, hE.2⟩) ?_
  clear hK K
  refine mix_free (fun K hK => ?_)
  go_simp
  refine hK _ ?_
  clear hK K
  refine mix_free (fun K hK => ?_)
  go_simp
  refine hK _ ?_
  clear hK K
  refine mix_free (fun K hK => ?_)
  go_simp
  refine hK _ ?_
  clear hK K
  refine mix_free (fun K hK => ?_)
  go_simp
  refine hK _ ?_
  clear hK K
  refine mix_free (fun K hK => ?_)
  go_simp
  refine hK _ ?_
  clear hK K
  refine mix_val (.int .i64 s) (by rfl) (fun w' hw' => ?_) (fun K hK => ?_)
  · obtain ⟨p0, p1, p2, p3, p4⟩ := hw'
    go_simp
  go_simp
  refine hK _ ?_
  clear hK K
  refine mix_step (fun K hK => ?_) (keep1 ⟨F.c0, F.c1, F.c2, F.c3, hE.2⟩)
  go_wp2_with fail
  refine (size_any _ _ hB).mono ?_
  rintro e wn ⟨rfl, mn, hmn⟩
  have gn := (by rw [hmn]; exact grown_drewN _ mn none : World.grownBy _ wn none)
  clear hmn
  replace F := F.grown gn (by simp)
  replace hHd := hHd.below (below_of_grown gn) (Nat.le_refl _)
  replace hB := hB.grown gn (by simp)
  replace hR := hR.grown gn (.inl rfl)
  replace os := os.kept gn (Classical.em _)
  replace gC := grown_trans gC gn
  clear gn
  go_wp2_with fail
  refine hK _ _ (keep1 ⟨F.c0, F.c1, F.c2, F.c3, hE.2⟩) ?_
  clear hK K
  refine mix_free (fun K hK => ?_)
  go_simp
  refine hK _ ?_
  clear hK K
  refine mix_free (fun K hK => ?_)
  go_simp
  refine hK _ ?_
  clear hK K
  refine mix_free (fun K hK => ?_)
  go_simp
  refine hK _ ?_
  clear hK K
  refine mix_free (fun K hK => ?_)
  go_simp
  refine hK _ ?_
  clear hK K
  refine mix_val (.agg #[.int .i64 s, .int .i64 o, .slice ad n cap, .int .i64 g]) (by rfl) (fun w' hw' => ?_) (fun K hK => ?_)
  · obtain ⟨p0, p1, p2, p3, p4⟩ := hw'
    go_simp
  go_simp
  refine hK _ ?_
  clear hK K
  refine mix_val (.agg #[.int .i64 s, .int .i64 o, .slice ad n cap, .int .i64 g]) (by rfl) (fun w' hw' => ?_) (fun K hK => ?_)
  · obtain ⟨p0, p1, p2, p3, p4⟩ := hw'
    go_simp
  go_simp
  refine hK _ ?_
  clear hK K
  refine mix_free (fun K hK => ?_)
  go_simp
  refine hK _ ?_
  clear hK K
  refine mix_free (fun K hK => ?_)
  go_simp
  refine hK _ ?_
  clear hK K
  refine mix_step (fun K hK => ?_) (keep1 ⟨F.c0, F.c1, F.c2, F.c3, hE.2⟩)
  go_wp2_with fail
  refine (part_any _ _ hB).mono ?_
  rintro e wn ⟨rfl, gn⟩
  replace F := F.grown gn (by simp)
  replace hHd := hHd.below (below_of_grown gn) (Nat.le_refl _)
  replace hB := hB.grown gn (by simp)
  replace hR := hR.grown gn (.inl rfl)
  replace os := os.kept gn (Classical.em _)
  replace gC := grown_trans gC gn
  clear gn
  rw [hln, hog]
  go_wp2_with fail
  refine hK _ _ (keep1 ⟨F.c0, F.c1, F.c2, F.c3, hE.2⟩) ?_
  clear hK K
  refine mix_step (fun K hK => ?_) (keep1 ⟨F.c0, F.c1, F.c2, F.c3, hE.2⟩)
  go_wp2_with fail
  refine (from_any s o ad n cap g _ ⟨ho0, ho1⟩ hgb).mono ?_
  rintro e wn ⟨rfl, gn⟩
  replace F := F.grown gn (by simp)
  replace hHd := hHd.below (below_of_grown gn) (Nat.le_refl _)
  replace hB := hB.grown gn (by simp)
  replace hR := hR.grown gn (.inl rfl)
  replace os := os.kept gn (Classical.em _)
  replace gC := grown_trans gC gn
  clear gn
  go_wp2_with fail
  refine hK _ _ (keep1 ⟨F.c0, F.c1, F.c2, F.c3, hE.2⟩) ?_
  clear hK K
  refine mix_step (fun K hK => ?_) (keep1 ⟨F.c0, F.c1, F.c2, F.c3, hE.2⟩)
  go_wp2_with fail
  refine (from_any s o ad n cap g _ ⟨ho0, ho1⟩ hgb).mono ?_
  rintro e wn ⟨rfl, gn⟩
  replace F := F.grown gn (by simp)
  replace hHd := hHd.below (below_of_grown gn) (Nat.le_refl _)
  replace hB := hB.grown gn (by simp)
  replace hR := hR.grown gn (.inl rfl)
  replace os := os.kept gn (Classical.em _)
  replace gC := grown_trans gC gn
  clear gn
  go_wp2_with fail
  refine hK _ _ (keep1 ⟨F.c0, F.c1, F.c2, F.c3, hE.2⟩) ?_
  clear hK K
  have kw : IntKind.i64.wrap ((o : Int) + g + (n - g : Nat)) = o + g + (n - g : Nat) := IntWalk.i64_in _ (by omega)
  refine mix_free (fun K hK => ?_)
  go_simp
  refine hK _ ?_
  clear hK K
  refine mix_free (fun K hK => ?_)
  go_simp
  refine hK _ ?_
  clear hK K
  refine mix_free (fun K hK => ?_)
  go_simp
  refine hK _ ?_
  clear hK K
  refine mix_free (fun K hK => ?_)
  go_simp
  refine hK _ ?_
  clear hK K
  refine mix_nil ?_
  clear kw
  have hrow := Row8.of_owns os
  have hbn : ((n - g : Nat) : Int) ≤ 100000 := by omega
  clear os F hB hR hE
  generalize n - g = n1 at hrow hbn ⊢
  go_wp2_with fail
  go_loopw [88] (fun v wr => ∃ j : Nat, j ≤ n1 ∧ v = .int .i64 j ∧ Row8 wr ga n1 ∧ w.grownBy wr none)
    (fun v _ => n1 - (intOf v).toNat)
  case atStart => exact ⟨0, Nat.zero_le _, rfl, hrow, gC⟩
  case round =>
    clear hrow gC
    obtain ⟨j, hj, rfl, hrow, gC⟩ := hrel
    by_cases hlt : j < n1
    · have hlt' : (j : Int) < n1 := by omega
      obtain ⟨v, hv, hf⟩ := hrow.cell j hlt
      go_wp2_with fail
      go_roundw
      case rel => exact ⟨j + 1, by omega, by go_num, hrow.set j _, grown_setNew gC hgx _ _⟩
      case measure => simp [intOf]; omega
    · have hge : ¬ ((j : Int) < n1) := by omega
      go_wp2_with fail
      go_ret
      exact ⟨rfl, gC⟩

theorem told_any (b s o g n cap : Nat) (ad : Option Addr) (all : List UInt8) (i : Int) (w : World) (hB : IsBuf w b s (o + g) (all.drop g)) (hR : RefS w b ad n cap g all) (hn : n ≤ 100000) (ho1 : (o : Int) ≤ 281474976710656) :
    Calls Try.prog 34 #[.pointer (some ⟨b, 0, none⟩), .agg #[.int .i64 s, .int .i64 o, .slice ad n cap, .int .i64 g], .int .i64 i] w fun e w' => e = .returned (.bool true) ∧ w.grownBy w' none := by
  by_cases h : i < 0
  · exact told_neg b s o g n cap ad all i w hB hR hn ho1 h
  · by_cases h2 : ((n - g : Nat) : Int) ≤ i
    · exact told_over b s o g n cap ad all i w hB hR hn ho1 (by omega) h2
    · obtain ⟨k, rfl⟩ : ∃ k : Nat, i = k := ⟨i.toNat, by omega⟩
      exact told_in b s o g n cap ad all k w hB hR hn ho1 (by omega)

end Go.Proofs.Ytadoobkieehajaa
