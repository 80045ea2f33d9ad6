/- The contract of awake. -/
import Derived.Test.YtadoobkieehajaaK
import Derived.Lib.SlBytesConst
namespace Go.Proofs.Ytadoobkieehajaa
open Go.RowKit Go.Shelf

theorem slc_const (w : World) : Slc (w.alloc (.cells #[.int .u8 103, .int .u8 104] 5 (2, 3))) (some ⟨w.heap.size, 0, none⟩) [103, 104] :=
  .inr ⟨w.heap.size, 0, rfl, by simp, fun j hj => by
    simp only [World.cell?, World.alloc_heap_new]
    match j, hj with
    | 0, _ => rfl
    | 1, _ => rfl⟩
set_option maxRecDepth 100000 in
set_option maxHeartbeats 1000000 in
theorem awake_any (w : World) :
    Calls Try.prog 10 #[] w fun e w' => e = .returned (.bool true) ∧ w.grownBy w' none := by
  have qc : ∀ w : World, (convert 23 23 (.slice (some ⟨w.heap.size, 0, none⟩) 2 2)).run Try.prog (w.alloc (.cells #[.int .u8 103, .int .u8 104] 5)) = .ok (.slice (some ⟨w.heap.size, 0, none⟩) 2 2) (w.alloc (.cells #[.int .u8 103, .int .u8 104] 5 (2, 3))) :=
    fun w => Lib.run_convert_bytes_const w 23 5 _ 2 2 Try.underlying23 Try.underlying5
  go_enter Try.func10, Try.ntmps10
  go_wp2_with fail
  refine (filled_any 5 10 ⟨#[97, 98, 99, 100, 101]⟩ w (by omega) (by omega) (by decide) (by decide)).mono ?_
  rintro e w1 ⟨rfl, hb1, g1⟩
  have e1 : bs ⟨#[97, 98, 99, 100, 101]⟩ = [97, 98, 99, 100, 101] := rfl
  rw [e1] at hb1
  clear e1
  go_wp2_with fail
  have B1 := below_of_grown g1
  clear g1
  refine (full_any _ _ hb1).mono ?_
  rintro e w2 ⟨rfl, m2, rfl⟩
  replace hb1 := hb1.drewN m2
  replace B1 := below_drewN B1 m2
  generalize w1.drewN m2 = w2 at hb1 B1 ⊢
  clear w1
  go_wp2_with fail
  refine (part_any _ _ hb1).mono ?_
  rintro e w3 ⟨rfl, g3⟩
  have hb3 := hb1.grown g3 (by simp)
  have B3 := B1.trans (below_of_grown g3 |>.mono B1.size)
  clear g3 hb1 B1 w2
  go_wp2_with fail
  refine (put_full _ 102 _ hb3 rfl).mono ?_
  rintro e w4 ⟨rfl, m4, rfl⟩
  replace hb3 := hb3.drewN m4
  replace B3 := below_drewN B3 m4
  generalize w3.drewN m4 = w4 at hb3 B3 ⊢
  clear w3
  go_wp2_with fail
  refine (discard_full _ _ hb3 rfl).mono ?_
  rintro e w5 ⟨rfl, hb5, g5⟩
  have B5 := below_grown B3 g5 B3.size (Nat.le_refl _)
  clear g5 hb3 B3 w4
  change IsBuf w5 w.heap.size 5 13 [100, 101] at hb5
  have hlt5 : w.heap.size < w5.heap.size := hb5.lt
  go_wp2_with fail
  have T5 : Two (w5.alloc (.cells #[.int .i64 10, .int .i64 13] 31)) w5.heap.size 10 13 := ⟨by rw [World.alloc_heap_new]⟩
  replace hb5 := hb5.grown (World.grownBy_alloc w5 (.cells #[.int .i64 10, .int .i64 13] 31) none) (by simp)
  replace B5 := B5.alloc B5.size (.cells #[.int .i64 10, .int .i64 13] 31)
  generalize w5.alloc (.cells #[.int .i64 10, .int .i64 13] 31) = w6 at T5 hb5 B5 ⊢
  refine (bytes_any _ _ hb5).mono ?_
  rintro e w7 ⟨g, cap, rfl, hown, g7⟩
  have k7 := slc_convert (slc_of_owns hown).1 2 cap rfl
  have hb7 := hb5.grown g7 (by simp)
  have T7 := T5.grown g7 (by simp)
  have B7 := B5.trans ((below_of_grown g7).mono B5.size)
  have c0 := T7.c0
  have c1 := T7.c1
  clear g7 hown hb5 T5 B5
  go_wp2_with fail
  refine (put_ok _ 102 _ hb7 (by simp) (by simp)).mono ?_
  rintro e w8 ⟨rfl, hb8, g8⟩
  change IsBuf w8 w.heap.size 5 13 [100, 101, 102] at hb8
  have B8 := below_grown B7 g8 B7.size (Nat.le_refl _)
  have T8 := T7.grown g8 (by simp; omega)
  clear g8 hb7 B7 T7
  go_wp2_with fail
  refine (put_ok _ 103 _ hb8 (by simp) (by simp)).mono ?_
  rintro e w9 ⟨rfl, hb9, g9⟩
  change IsBuf w9 w.heap.size 5 13 [100, 101, 102, 103] at hb9
  have B9 := below_grown B8 g9 B8.size (Nat.le_refl _)
  have T9 := T8.grown g9 (by simp; omega)
  clear g9 hb8 B8 T8
  go_wp2_with fail
  refine (put_ok _ 104 _ hb9 (by simp) (by simp)).mono ?_
  rintro e w10 ⟨rfl, hb10, g10⟩
  change IsBuf w10 w.heap.size 5 13 [100, 101, 102, 103, 104] at hb10
  have B10 := below_grown B9 g10 B9.size (Nat.le_refl _)
  have T10 := T9.grown g10 (by simp; omega)
  clear g10 hb9 B9 T9
  clear c0 c1 k7 w7 w8 w9
  go_wp2_with fail
  refine (full_any _ _ hb10).mono ?_
  rintro e w11 ⟨rfl, m11, rfl⟩
  replace hb10 := hb10.drewN m11
  replace B10 := below_drewN B10 m11
  have T11 := T10.of_block (w' := w10.drewN m11) (by rw [World.heap_drewN])
  generalize w10.drewN m11 = w11 at hb10 B10 T11 ⊢
  clear T10 w10
  go_wp2_with fail
  refine (take_ok _ 2 _ hb10 (by simp)).mono ?_
  rintro e w12 ⟨g', cap', rfl, hown, hb12, g12⟩
  change IsBuf w12 w.heap.size 5 15 [102, 103, 104] at hb12
  have B12 := below_grown B10 g12 B10.size (Nat.le_refl _)
  have T12 := T11.grown g12 (by simp; omega)
  clear g12 hb10 B10 T11
  have hsz12 := T12.lt
  go_wp2_with fail
  have T13 : Two (w12.alloc (.cells #[.int .i64 13, .int .i64 15] 31)) w12.heap.size 13 15 := ⟨by rw [World.alloc_heap_new]⟩
  have hb13 := hb12.grown (World.grownBy_alloc w12 (.cells #[.int .i64 13, .int .i64 15] 31) none) (by simp)
  have B13 := B12.alloc B12.size (.cells #[.int .i64 13, .int .i64 15] 31)
  have s13 := (slc_of_owns (hown.alloc (.cells #[.int .i64 13, .int .i64 15] 31))).1
  have U13 := T12.grown (World.grownBy_alloc w12 (.cells #[.int .i64 13, .int .i64 15] 31) none) (by simp)
  generalize w12.alloc (.cells #[.int .i64 13, .int .i64 15] 31) = w13 at T13 hb13 B13 s13 U13 ⊢
  clear hb12 B12 T12 hown
  refine (discard_room _ _ hb13 (by simp)).mono ?_
  rintro e w14 ⟨rfl, g14⟩
  have hb15 := (hb13.grown g14 (by simp)).grown (World.grownBy_alloc w14 (.cells #[.int .i64 0, .int .i64 0] 31) none) (by simp)
  have B14 := B13.trans ((below_of_grown g14).mono B13.size)
  have B15 := B14.alloc B14.size (.cells #[.int .i64 0, .int .i64 0] 31)
  have T15 := (T13.grown g14 (by simp)).grown (World.grownBy_alloc w14 (.cells #[.int .i64 0, .int .i64 0] 31) none) (by simp)
  have U15 := (U13.grown g14 (by simp)).grown (World.grownBy_alloc w14 (.cells #[.int .i64 0, .int .i64 0] 31) none) (by simp)
  have k15 := slc_convert ((s13.below (below_of_grown g14) (Nat.le_refl _)).below (below_of_grown (World.grownBy_alloc w14 (.cells #[.int .i64 0, .int .i64 0] 31) none)) (Nat.le_refl _)) 2 cap' rfl
  have c0 := T15.c0
  have c1 := T15.c1
  have q15 := qc (w14.alloc (.cells #[.int .i64 0, .int .i64 0] 31))
  rw [World.size_alloc] at q15
  clear g14 hb13 B13 T13 s13 B14
  go_wp2_with fail
  clear c0 c1 k15 T15 q15
  have s15 := World.size_alloc w14 (.cells #[.int .i64 0, .int .i64 0] 31)
  generalize w14.alloc (.cells #[.int .i64 0, .int .i64 0] 31) = w15 at hb15 B15 s15 U15 ⊢
  rw [← s15]
  have hb16 := hb15.grown (World.grownBy_alloc w15 (.cells #[.int .u8 103, .int .u8 104] 5 (2, 3)) none) (by simp)
  have B16 := B15.alloc B15.size (.cells #[.int .u8 103, .int .u8 104] 5 (2, 3))
  refine (find_any _ _ 2 [103, 104] 0 _ hb16 (slc_const _) (by decide) (by decide)).mono ?_
  rintro e w17 ⟨rfl, g17⟩
  rw [show findR [102, 103, 104] [103, 104] 0 = 1 by decide]
  have U17 := (U15.grown (World.grownBy_alloc w15 (.cells #[.int .u8 103, .int .u8 104] 5 (2, 3)) none) (by simp)).grown g17 (by simp)
  have hb17 := hb16.grown g17 (by simp)
  have B17 := B16.trans ((below_of_grown g17).mono B16.size)
  have q17 := qc w17
  clear g17 hb16 B16 hb15 B15 U15 U13
  go_wp2_with fail
  have hb18 := hb17.grown (World.grownBy_alloc w17 (.cells #[.int .u8 103, .int .u8 104] 5 (2, 3)) none) (by simp)
  have U18 := U17.grown (World.grownBy_alloc w17 (.cells #[.int .u8 103, .int .u8 104] 5 (2, 3)) none) (by simp)
  have B18 := B17.alloc B17.size (.cells #[.int .u8 103, .int .u8 104] 5 (2, 3))
  refine (find_any _ _ 2 [103, 104] 2 _ hb18 (slc_const _) (by decide) (by decide)).mono ?_
  rintro e w19 ⟨rfl, g19⟩
  rw [show findR [102, 103, 104] [103, 104] 2 = -1 by decide]
  have hb19 := hb18.grown g19 (by simp)
  have U19 := U18.grown g19 (by simp)
  have B19 := B18.trans ((below_of_grown g19).mono B18.size)
  clear g19 hb18 B18 U18 hb17 B17 U17 q17
  go_wp2_with fail
  refine (find_any _ none 0 [] 3 _ hb19 (.inl rfl) (by decide) (by decide)).mono ?_
  rintro e w20 ⟨rfl, g20⟩
  rw [show findR [102, 103, 104] [] 3 = 3 by decide]
  have U20 := U19.grown g20 (by simp)
  have B20 := B19.trans ((below_of_grown g20).mono B19.size)
  clear g20 hb19 B19 U19
  go_wp2_with fail
  refine (filled_any 2 0 ⟨#[97, 98]⟩ w20 (by omega) (by omega) (by decide) (by decide)).mono ?_
  rintro e w21 ⟨rfl, hb21, g21⟩
  change IsBuf w21 w20.heap.size 2 0 [97, 98] at hb21
  have U21 := U20.grown g21 (by simp)
  have B21 := B20.trans ((below_of_grown g21).mono B20.size)
  have hz20 : w20.heap.size < w21.heap.size := hb21.lt
  have B20' := B20.size
  clear g21 B20
  go_wp2_with fail
  refine (filled_any 2 281474976710656 ⟨#[]⟩ w21 (by omega) (by omega) (by decide) (by decide)).mono ?_
  rintro e w22 ⟨rfl, hb22, g22⟩
  change IsBuf w22 w21.heap.size 2 281474976710656 [] at hb22
  have U22 := U21.grown g22 (by simp)
  have B22 := B21.trans ((below_of_grown g22).mono B21.size)
  replace hb21 := hb21.grown g22 (by simp)
  clear g22 B21 U21
  go_wp2_with fail
  refine (discard_full _ _ hb21 rfl).mono ?_
  rintro e w23 ⟨rfl, hb23, g23⟩
  have U23 := U22.grown g23 (by simp; have := U20.lt; omega)
  have B23 := below_grown B22 g23 B22.size B20'
  replace hb22 := hb22.grown g23 (by simp; omega)
  clear g23 B22 U22 hb23
  have c0 := U23.c0
  have c1 := U23.c1
  have f0 := U23.free 0
  have f1 := U23.free 1
  go_wp2_with fail
  have hlt20 := U20.lt
  have gs := grown_trans (grown_setCell w23 w5.heap.size 0 (.int .i64 0)) (grown_setCell (w23.setCell ⟨w5.heap.size, 0, none⟩ (.int .i64 0)) w5.heap.size 1 (.int .i64 1))
  have hb24 := hb22.grown gs (by simp; omega)
  have B24 := below_grown B23 gs B23.size (Nat.le_of_lt hlt5)
  refine (put_long _ 97 _ hb24 (by simp) rfl).mono ?_
  rintro e w25 ⟨rfl, m25, rfl⟩
  go_wp2_with fail
  go_ret
  exact ⟨rfl, grown_of_below _ (below_drewN B24 m25)⟩
end Go.Proofs.Ytadoobkieehajaa
