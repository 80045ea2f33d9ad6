/- The walk of BufferWrong. -/
import Derived.Test.YtadoobkieehajaaU
namespace Go.Proofs.Ytadoobkieehajaa
open Go.RowKit Go.Shelf

theorem min_to (K n : Int) : ∃ m : Int, m ≤ K ∧ (if K < n then K else n) = m := by
  by_cases h : K < n
  · exact ⟨K, Int.le_refl _, by simp [h]⟩
  · exact ⟨n, by omega, by simp [h]⟩
theorem max_to (K n : Int) : ∃ m : Int, K ≤ m ∧ (if n < K then K else n) = m := by
  by_cases h : n < K
  · exact ⟨K, Int.le_refl _, by simp [h]⟩
  · exact ⟨n, by omega, by simp [h]⟩

theorem min3_less (x s : Nat) (hs : 2 ≤ s) : ∃ M : Nat, M ≤ x ∧ M < s ∧ M ≤ 200 ∧ (if (s : Int) - 1 < (if (200 : Int) < (x : Int) then (200 : Int) else (x : Int)) then (s : Int) - 1 else (if (200 : Int) < (x : Int) then (200 : Int) else (x : Int))) = (M : Int) ∧ max (M : Int) 0 = M := by
  by_cases h : (200 : Int) < x
  · by_cases h2 : (s : Int) - 1 < 200
    · exact ⟨s - 1, by omega, by omega, by omega, by simp [h, h2]; omega, by omega⟩
    · exact ⟨200, by omega, by omega, by omega, by simp [h, h2], by omega⟩
  · by_cases h2 : (s : Int) - 1 < x
    · exact ⟨s - 1, by omega, by omega, by omega, by simp [h, h2]; omega, by omega⟩
    · exact ⟨x, by omega, by omega, by omega, by simp [h, h2], by omega⟩

set_option maxRecDepth 100000 in
set_option maxHeartbeats 2000000 in
theorem wrong_walk (n : UInt8) (al : Option Addr) (cap : Nat) (l : List UInt8) (z : Int) (w : World) (hl0 : Slc w al l) (hcl : l.length ≤ cap) (hml : cap ≤ maxLen) :
    Calls Try.prog 5 #[.int .u8 n.toNat, .slice al l.length cap, .int .i64 z] w fun e w' => e = .returned (.bool true) ∧ Below w.heap.size w w' := by
  obtain ⟨s, hs1, hs2, hsz⟩ := size_some n
  obtain ⟨M, hM, hMs, hM2, hq, hq0⟩ := min3_less l.length s hs1
  obtain ⟨m1, hm1, e1⟩ := min_to 1 z
  obtain ⟨m2, hm2, e2⟩ := max_to 257 z
  obtain ⟨m3, hm3, e3⟩ := min_to (-1) z
  obtain ⟨m4, hm4, e4⟩ := max_to 281474976710657 z
  obtain ⟨m5, hm5, e5⟩ := max_to ((M : Int) + 1) z
  have hl := hl0.take M
  have hlen : (l.take M).length = M := by rw [List.length_take]; omega
  generalize l.take M = l' at hl hlen
  clear hl0
  go_enter Try.func5, Try.ntmps5
  go_wp2_with fail
  refine (awake_any w).mono ?_
  rintro e w1 ⟨rfl, g1⟩
  have B1 := below_of_grown g1
  clear g1
  go_wp2_with fail
  have hgw := B1.size
  have B2 := B1.alloc B1.size (.cells #[.int .i64 m1, .int .i64 0, .int .i64 m2, .int .i64 0, .int .i64 2, .int .i64 m3, .int .i64 2, .int .i64 m4] 43)
  have hblk := World.alloc_heap_new w1 (.cells #[.int .i64 m1, .int .i64 0, .int .i64 m2, .int .i64 0, .int .i64 2, .int .i64 m3, .int .i64 2, .int .i64 m4] 43)
  generalize w1.alloc (.cells #[.int .i64 m1, .int .i64 0, .int .i64 m2, .int .i64 0, .int .i64 2, .int .i64 m3, .int .i64 2, .int .i64 m4] 43) = w2 at B2 hblk ⊢
  generalize w1.heap.size = g at hgw hblk ⊢
  clear B1
  go_loopw [41] (fun v wr => ∃ j : Nat, j ≤ 4 ∧ v = .int .i64 j ∧ wr.heap[g]? = some (.cells #[.int .i64 m1, .int .i64 0, .int .i64 m2, .int .i64 0, .int .i64 2, .int .i64 m3, .int .i64 2, .int .i64 m4] 43) ∧ Below w.heap.size w wr)
    (fun v _ => 4 - (intOf v).toNat)
  case atStart => exact ⟨0, by omega, rfl, hblk, B2⟩
  case round =>
    obtain ⟨j, hj, rfl, hbk, hBr⟩ := hrel
    have hlt := (Array.getElem?_eq_some_iff.1 hbk).1
    have hz := hBr.size
    match j, hj with
    | 0, _ =>
      have c0 : wr.cell? ⟨g, 0, none⟩ = some (.int .i64 m1) := cell_of_block hbk
      have c1 : wr.cell? ⟨g, 1, none⟩ = some (.int .i64 0) := cell_of_block hbk
      go_wp2_with fail
      refine (new_bad m1 0 _ (by omega)).mono ?_
      rintro e _ ⟨rfl, rfl⟩
      go_wp2_with fail
      go_roundw
      case rel => exact ⟨1, by omega, by first | rfl | go_num, (Below.heap_alloc _ _ _ hlt).trans hbk, hBr.alloc hz _⟩
      case measure => simp [intOf]
    | 1, _ =>
      have c0 : wr.cell? ⟨g, 2, none⟩ = some (.int .i64 m2) := cell_of_block hbk
      have c1 : wr.cell? ⟨g, 3, none⟩ = some (.int .i64 0) := cell_of_block hbk
      go_wp2_with fail
      refine (new_bad m2 0 _ (by omega)).mono ?_
      rintro e _ ⟨rfl, rfl⟩
      go_wp2_with fail
      go_roundw
      case rel => exact ⟨2, by omega, by first | rfl | go_num, (Below.heap_alloc _ _ _ hlt).trans hbk, hBr.alloc hz _⟩
      case measure => simp [intOf]
    | 2, _ =>
      have c0 : wr.cell? ⟨g, 4, none⟩ = some (.int .i64 2) := cell_of_block hbk
      have c1 : wr.cell? ⟨g, 5, none⟩ = some (.int .i64 m3) := cell_of_block hbk
      go_wp2_with fail
      refine (new_bad 2 m3 _ (by omega)).mono ?_
      rintro e _ ⟨rfl, rfl⟩
      go_wp2_with fail
      go_roundw
      case rel => exact ⟨3, by omega, by first | rfl | go_num, (Below.heap_alloc _ _ _ hlt).trans hbk, hBr.alloc hz _⟩
      case measure => simp [intOf]
    | 3, _ =>
      have c0 : wr.cell? ⟨g, 6, none⟩ = some (.int .i64 2) := cell_of_block hbk
      have c1 : wr.cell? ⟨g, 7, none⟩ = some (.int .i64 m4) := cell_of_block hbk
      go_wp2_with fail
      refine (new_bad 2 m4 _ (by omega)).mono ?_
      rintro e _ ⟨rfl, rfl⟩
      go_wp2_with fail
      go_roundw
      case rel => exact ⟨4, by omega, by first | rfl | go_num, (Below.heap_alloc _ _ _ hlt).trans hbk, hBr.alloc hz _⟩
      case measure => simp [intOf]
    | 4, _ =>
      clear hblk B2 hbk hlt
      go_wp2_with fail
      refine (hsz wr).mono ?_
      rintro e _ ⟨rfl, rfl⟩
      go_wp2_with fail
      refine (hsz wr).mono ?_
      rintro e _ ⟨rfl, rfl⟩
      go_wp2_with fail
      obtain ⟨o, ho, hoM⟩ : ∃ o : Nat, (281474976710656 : Int) - M = o ∧ o + M = 281474976710656 := ⟨281474976710656 - M, by omega, by omega⟩
      rw [ho]
      have HO := Lib.hid ho
      have HOM := Lib.hid hoM
      clear ho hoM hq e1 e2 hm1 hm2
      refine (new_ok s o wr hs1 hs2 (by have := HOM.out; omega)).mono ?_
      rintro e w3 ⟨rfl, hb3, g3⟩
      have B3 := hBr.trans ((below_of_grown g3).mono hz)
      generalize wr.heap.size = b at hb3 hz ⊢
      clear g3 hBr
      go_wp2_with fail
      go_loopw [85] (fun v wr => ∃ j : Nat, j ≤ M ∧ v = .int .i64 j ∧ IsBuf wr b s o (l'.take j) ∧ Below w.heap.size w wr)
        (fun v _ => M - (intOf v).toNat)
      case atStart => exact ⟨0, Nat.zero_le _, rfl, hb3, B3⟩
      case round =>
        obtain ⟨j, hj, rfl, hbr, hBr⟩ := hrel
        by_cases hlt : j < M
        · have hlt' : (j : Int) < M := by omega
          obtain rfl | ⟨bb, off, rfl, hbl, hbc⟩ := hl.below hBr (Nat.le_refl _)
          · simp at hlen; omega
          have hcj := hbc j (by omega)
          have hjl : (l'.take j).length = j := by rw [List.length_take]; omega
          go_wp2_with fail
          refine (put_ok _ _ _ hbr (by omega) (by have := HOM.out; omega)).mono ?_
          rintro e w6 ⟨rfl, hb6, g6⟩
          go_wp2_with fail
          go_roundw
          case rel =>
            refine ⟨j + 1, by omega, by go_num, ?_, below_grown hBr g6 hBr.size hz⟩
            rw [List.take_succ_eq_append_getElem (by omega)]
            exact hb6
          case measure => simp [intOf]; omega
        · obtain rfl : j = M := by omega
          have hge : ¬ ((j : Int) < j) := by omega
          rw [List.take_of_length_le (by omega)] at hbr
          go_wp2_with fail
          refine (part_any _ _ hbr).mono ?_
          rintro e w4 ⟨rfl, g4⟩
          rw [hlen]
          go_wp2_with fail
          generalize hbx0 : w4.heap.size = bx
          have T4 : Two (w4.alloc (.cells #[.int .i64 o, .int .i64 (o + (j : Nat))] 31)) bx o (o + (j : Nat)) := ⟨by rw [← hbx0, World.alloc_heap_new]⟩
          have gA := grown_trans g4 (World.grownBy_alloc w4 (.cells #[.int .i64 o, .int .i64 (o + (j : Nat))] 31) none)
          have hb4 := hbr.grown gA (by simp)
          have B4 := hBr.trans ((below_of_grown gA).mono hBr.size)
          have hbxl : w.heap.size ≤ bx ∧ b < bx := ⟨by have := hBr.size; have := g4.size; omega, by have := hbr.lt; have := g4.size; omega⟩
          have hpx0 : (w4.alloc (.cells #[.int .i64 o, .int .i64 (o + (j : Nat))] 31)).heap.size = bx + 1 := by rw [← hbx0]; simp
          generalize w4.alloc (.cells #[.int .i64 o, .int .i64 (o + (j : Nat))] 31) = w5 at T4 hb4 B4 hpx0 ⊢
          clear gA g4 hbr hBr hbx0
          have hblk5 := World.alloc_heap_new w5 (.cells #[.int .i64 m3, .int .i64 m5] 3)
          have g5 := World.grownBy_alloc w5 (.cells #[.int .i64 m3, .int .i64 m5] 3) none
          have hb5 := hb4.grown g5 (by simp)
          have B5 := B4.trans ((below_of_grown g5).mono B4.size)
          have T5 := T4.grown g5 (by simp)
          have hgx : w.heap.size ≤ w5.heap.size := B4.size
          generalize w5.alloc (.cells #[.int .i64 m3, .int .i64 m5] 3) = w6 at hblk5 hb5 B5 T5 ⊢
          rw [hpx0] at hblk5 hgx
          generalize bx + 1 = gx at hblk5 hgx ⊢
          clear hpx0
          clear g5 T4 hb4 B4
          go_loopw [105] (fun v wr => ∃ k : Nat, k ≤ 2 ∧ v = .int .i64 k ∧ IsBuf wr b s o l' ∧ Two wr bx o (o + (j : Nat)) ∧ wr.heap[gx]? = some (.cells #[.int .i64 m3, .int .i64 m5] 3) ∧ Below w.heap.size w wr)
            (fun v _ => 2 - (intOf v).toNat)
          case atStart => exact ⟨0, by omega, rfl, hb5, T5, hblk5, B5⟩
          case round =>
            clear hblk5 hb5 B5 T5
            obtain ⟨k, hk, rfl, hbr, T, hbk, hBr⟩ := hrel
            have hltg := (Array.getElem?_eq_some_iff.1 hbk).1
            match k, hk with
            | 0, _ =>
              have c0 : wr.cell? ⟨gx, 0, none⟩ = some (.int .i64 m3) := cell_of_block hbk
              have c1 : wr.cell? ⟨gx, 1, none⟩ = some (.int .i64 m5) := cell_of_block hbk
              go_wp2_with fail
              refine (take_bad _ m3 _ hbr (.inl (by omega))).mono ?_
              rintro e w7 ⟨rfl, g7⟩
              go_wp2_with fail
              generalize hby0 : w7.heap.size = bz
              have gB := grown_trans g7 (World.grownBy_alloc w7 (.cells #[.int .i64 0, .int .i64 0] 31) none)
              have T8 : Two (w7.alloc (.cells #[.int .i64 0, .int .i64 0] 31)) bz 0 0 := ⟨by rw [← hby0, World.alloc_heap_new]⟩
              have hb7 := hbr.grown gB (by simp)
              have T7 := T.grown gB (by simp)
              have hbk7 : (w7.alloc (.cells #[.int .i64 0, .int .i64 0] 31)).heap[gx]? = some (.cells #[.int .i64 m3, .int .i64 m5] 3) := (gB.block gx hltg (by simp)).trans hbk
              have B7 := hBr.trans ((below_of_grown gB).mono hBr.size)
              generalize w7.alloc (.cells #[.int .i64 0, .int .i64 0] 31) = w8 at T8 hb7 T7 hbk7 B7 ⊢
              clear gB g7 hby0 hbr T hbk hBr c0 c1 hltg
              refine (at_out _ m3 _ hb7 (.inl (by omega))).mono ?_
              rintro e _ ⟨rfl, m9, rfl⟩
              have e9 : (w8.drewN m9).heap = w8.heap := World.heap_drewN _ _
              replace hb7 := hb7.drewN m9
              replace T7 := T7.of_block (w' := w8.drewN m9) (by rw [e9])
              replace T8 := T8.of_block (w' := w8.drewN m9) (by rw [e9])
              replace B7 := below_drewN B7 m9
              replace hbk7 : (w8.drewN m9).heap[gx]? = some (.cells #[.int .i64 m3, .int .i64 m5] 3) := by rw [e9]; exact hbk7
              generalize w8.drewN m9 = w9 at hb7 T7 T8 hbk7 B7 ⊢
              clear e9
              have d0 := T8.c0
              have d1 := T8.c1
              go_wp2_with fail
              go_roundw
              case rel => exact ⟨1, by omega, by first | rfl | go_num, hb7, T7, hbk7, B7⟩
              case measure => simp [intOf]
            | 1, _ =>
              have c0 : wr.cell? ⟨gx, 0, none⟩ = some (.int .i64 m3) := cell_of_block hbk
              have c1 : wr.cell? ⟨gx, 1, none⟩ = some (.int .i64 m5) := cell_of_block hbk
              go_wp2_with fail
              refine (take_bad _ m5 _ hbr (.inr (by rw [hlen]; omega))).mono ?_
              rintro e w7 ⟨rfl, g7⟩
              go_wp2_with fail
              generalize hby0 : w7.heap.size = bz
              have gB := grown_trans g7 (World.grownBy_alloc w7 (.cells #[.int .i64 0, .int .i64 0] 31) none)
              have T8 : Two (w7.alloc (.cells #[.int .i64 0, .int .i64 0] 31)) bz 0 0 := ⟨by rw [← hby0, World.alloc_heap_new]⟩
              have hb7 := hbr.grown gB (by simp)
              have T7 := T.grown gB (by simp)
              have hbk7 : (w7.alloc (.cells #[.int .i64 0, .int .i64 0] 31)).heap[gx]? = some (.cells #[.int .i64 m3, .int .i64 m5] 3) := (gB.block gx hltg (by simp)).trans hbk
              have B7 := hBr.trans ((below_of_grown gB).mono hBr.size)
              generalize w7.alloc (.cells #[.int .i64 0, .int .i64 0] 31) = w8 at T8 hb7 T7 hbk7 B7 ⊢
              clear gB g7 hby0 hbr T hbk hBr c0 c1 hltg
              refine (at_out _ m5 _ hb7 (.inr (by rw [hlen]; omega))).mono ?_
              rintro e _ ⟨rfl, m9, rfl⟩
              have e9 : (w8.drewN m9).heap = w8.heap := World.heap_drewN _ _
              replace hb7 := hb7.drewN m9
              replace T7 := T7.of_block (w' := w8.drewN m9) (by rw [e9])
              replace T8 := T8.of_block (w' := w8.drewN m9) (by rw [e9])
              replace B7 := below_drewN B7 m9
              replace hbk7 : (w8.drewN m9).heap[gx]? = some (.cells #[.int .i64 m3, .int .i64 m5] 3) := by rw [e9]; exact hbk7
              generalize w8.drewN m9 = w9 at hb7 T7 T8 hbk7 B7 ⊢
              clear e9
              have d0 := T8.c0
              have d1 := T8.c1
              go_wp2_with fail
              go_roundw
              case rel => exact ⟨2, by omega, by first | rfl | go_num, hb7, T7, hbk7, B7⟩
              case measure => simp [intOf]
            | 2, _ =>
              clear hbk hltg
              go_wp2_with fail
              refine (discard_room _ _ hbr (by omega)).mono ?_
              rintro e w7 ⟨rfl, g7⟩
              have gB := grown_trans g7 (World.grownBy_alloc w7 (.cells #[.int .i64 0, .int .i64 0] 31) none)
              have hb7 := hbr.grown gB (by simp)
              have T7 := T.grown gB (by simp)
              have B7 := hBr.trans ((below_of_grown gB).mono hBr.size)
              clear g7 gB hbr T hBr
              go_wp2_with fail
              generalize w7.alloc (.cells #[.int .i64 0, .int .i64 0] 31) = w8 at hb7 T7 B7 ⊢
              refine region_mix [(0, .inl none), (1, .inl none), (2, .inl none), (3, .inl none), (4, .inr [0]), (5, .inl none), (6, .inl none), (7, .inl none), (8, .inl none), (10, .inl (some 0)), (9, .inr [0]), (11, .inl none), (12, .inl none), (13, .inl none), (14, .inl none), (15, .inl (some 0)), (16, .inl none), (17, .inl none), (18, .inl none), (19, .inl none), (21, .inl none), (20, .inr [0]), (22, .inr [0]), (23, .inl none), (24, .inl none)]
                (fun _ W => W.cell? ⟨bx, 0, none⟩ = some (.int .i64 o) ∧ W.cell? ⟨bx, 1, none⟩ = some (.int .i64 (o + (j : Nat)))) (by kernel_rfl) (by kernel_rfl) (fun k => ⟨T7.c0, T7.c1⟩) ?_
              simp only [pickK, List.filterMap_cons, List.filterMap_nil, List.getElem?_toArray, List.getElem?_cons_zero, List.getElem?_cons_succ, Option.map_some]
              have e8 : (w8.drewN 1).heap = w8.heap := World.heap_drewN _ _
              replace hb7 := hb7.drewN 1
              replace T7 := T7.of_block (w' := w8.drewN 1) (by rw [e8])
              replace B7 := below_drewN B7 1
              generalize w8.drewN 1 = w9 at hb7 T7 B7 ⊢
              clear e8
              refine mix_free (fun K hK => ?_)
              go_simp
              refine hK _ ?_
              clear hK K
              refine mix_free (fun K hK => ?_)
              go_simp
              refine hK _ ?_
              clear hK K
              refine mix_free (fun K hK => ?_)
              go_simp
              refine hK _ ?_
              clear hK K
              refine mix_free (fun K hK => ?_)
              go_simp
              refine hK _ ?_
              clear hK K
              refine mix_step (fun K hK => ?_) (keep1 ⟨T7.c0, T7.c1⟩)
              go_wp2_with fail
              have hpl := put_long b 120 w9 hb7 (by omega) (by rw [hlen]; exact HOM.out)
              refine hpl.mono ?_
              clear hpl
              rintro e _ ⟨rfl, m9, rfl⟩
              have e9 : (w9.drewN m9).heap = w9.heap := World.heap_drewN _ _
              replace hb7 := hb7.drewN m9
              replace T7 := T7.of_block (w' := w9.drewN m9) (by rw [e9])
              replace B7 := below_drewN B7 m9
              generalize w9.drewN m9 = w10 at hb7 T7 B7 ⊢
              clear e9
              go_wp2_with fail
              refine hK _ _ (keep1 ⟨T7.c0, T7.c1⟩) ?_
              clear hK K
              refine mix_free (fun K hK => ?_)
              go_simp
              refine hK _ ?_
              clear hK K
              refine mix_free (fun K hK => ?_)
              go_simp
              refine hK _ ?_
              clear hK K
              refine mix_free (fun K hK => ?_)
              go_simp
              refine hK _ ?_
              clear hK K
              refine mix_free (fun K hK => ?_)
              go_simp
              refine hK _ ?_
              clear hK K
              refine mix_val (.agg #[.int .i64 o, .int .i64 (o + (j : Nat))]) (by rfl) (fun w' hw' => ?_) (fun K hK => ?_)
              · obtain ⟨p0, p1⟩ := hw'
                go_simp
              go_simp
              refine hK _ ?_
              clear hK K
              refine mix_step (fun K hK => ?_) (keep1 ⟨T7.c0, T7.c1⟩)
              go_wp2_with fail
              refine (part_any _ _ hb7).mono ?_
              rintro e w11 ⟨rfl, g11⟩
              rw [hlen]
              replace hb7 := hb7.grown g11 (by simp)
              replace T7 := T7.grown g11 (by simp)
              replace B7 := B7.trans ((below_of_grown g11).mono B7.size)
              clear g11
              go_wp2_with fail
              refine hK _ _ (keep1 ⟨T7.c0, T7.c1⟩) ?_
              clear hK K
              refine mix_free (fun K hK => ?_)
              go_simp
              refine hK _ ?_
              clear hK K
              refine mix_free (fun K hK => ?_)
              go_simp
              refine hK _ ?_
              clear hK K
              refine mix_free (fun K hK => ?_)
              go_simp
              refine hK _ ?_
              clear hK K
              refine mix_free (fun K hK => ?_)
              go_simp
              refine hK _ ?_
              clear hK K
              have hoj : (o : Int) + j = 281474976710656 := by have := HOM.out; omega
              refine mix_val (.int .i64 (o + (j : Nat))) (by rfl) (fun w' hw' => ?_) (fun K hK => ?_)
              · obtain ⟨p0, p1⟩ := hw'
                go_simp
              go_simp
              refine hK _ ?_
              clear hK K
              refine mix_free (fun K hK => ?_)
              go_simp
              refine hK _ ?_
              clear hK K
              refine mix_free (fun K hK => ?_)
              go_simp
              refine hK _ ?_
              clear hK K
              refine mix_free (fun K hK => ?_)
              go_simp
              refine hK _ ?_
              clear hK K
              refine mix_free (fun K hK => ?_)
              go_simp
              refine hK _ ?_
              clear hK K
              refine mix_free (fun K hK => ?_)
              go_simp
              refine hK _ ?_
              clear hK K
              refine mix_step (fun K hK => ?_) (keep1 ⟨T7.c0, T7.c1⟩)
              go_wp2_with fail
              refine (bytes_any _ _ hb7).mono ?_
              rintro e w12 ⟨gy, cy, rfl, oy, g12⟩
              rw [hlen]
              rw [hlen] at oy
              have T12 := T7.grown g12 (by simp)
              have B12 := B7.trans ((below_of_grown g12).mono B7.size)
              go_wp2_with fail
              refine hK _ _ (keep1 ⟨T12.c0, T12.c1⟩) ?_
              clear hK K
              refine mix_step (fun K hK => ?_) (keep1 ⟨T12.c0, T12.c1⟩)
              go_wp2_with fail
              refine (equal_any l' l' _ _ _ _ _ _ _ ?hn ?hm (slc_of_owns oy).1 (hl.below B12 (Nat.le_refl _))).mono ?_
              case hn => exact hlen
              case hm => exact hlen
              rintro e _ ⟨rfl, rfl⟩
              rw [show (l' == l') = true by simp]
              go_wp2_with fail
              refine hK _ _ (keep1 ⟨T12.c0, T12.c1⟩) ?_
              clear hK K
              refine mix_free (fun K hK => ?_)
              go_simp
              refine hK _ ?_
              clear hK K
              refine mix_free (fun K hK => ?_)
              go_simp
              refine hK _ ?_
              clear hK K
              refine mix_nil ?_
              go_wp2_with fail
              go_ret
              exact ⟨rfl, B12⟩
end Go.Proofs.Ytadoobkieehajaa
