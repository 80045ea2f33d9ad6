/- The walk of BufferRoom. -/
import Derived.Test.YtadoobkieehajaaT
import Derived.IntWalk
namespace Go.Proofs.Ytadoobkieehajaa
open Go.RowKit Go.Shelf

theorem owns_cap {w : World} {base n cap : Nat} {ad : Option Addr} {xs : List Value} (h : w.ownsRow base 5 1 (.slice ad n cap) n xs) : n ≤ cap := by
  rcases h.2 with ⟨_, h0⟩ | ⟨g', cap', cur, e, _, _, hc, _⟩
  · omega
  · simp only [Value.slice.injEq] at e
    omega

set_option maxRecDepth 100000 in
set_option maxHeartbeats 4000000 in
theorem room_walk (n c0 rounds : UInt8) (w : World) :
    Calls Try.prog 4 #[.int .u8 n.toNat, .int .u8 c0.toNat, .int .u8 rounds.toNat] w fun e w' => e = .returned (.bool true) ∧ Below w.heap.size w w' := by
  obtain ⟨s, hs1, hs2, hsz⟩ := size_some n
  go_enter Try.func4, Try.ntmps4
  go_wp2_with fail
  have P0 := Boxed.new w 5 (.int .u8 c0.toNat)
  have B0 := (Below.refl w.heap.size w).alloc (Nat.le_refl _) (.cells #[.int .u8 c0.toNat] 5)
  generalize w.alloc (.cells #[.int .u8 c0.toNat] 5) = w0 at P0 B0 ⊢
  refine (awake_any w0).mono ?_
  rintro e w1 ⟨rfl, g1⟩
  have P1 := P0.kept g1 (by simp)
  have B1 := B0.trans ((below_of_grown g1).mono B0.size)
  clear P0 B0 g1
  go_wp2_with fail
  refine (hsz w1).mono ?_
  rintro e _ ⟨rfl, rfl⟩
  go_wp2_with fail
  refine (new_ok s 0 w1 hs1 hs2 (by omega)).mono ?_
  rintro e w2 ⟨rfl, hb2, g2⟩
  have P2 := P1.kept g2 (by simp)
  have B2 := B1.trans ((below_of_grown g2).mono B1.size)
  have hz1 := B1.size
  have hz2 := hb2.lt
  have hp1 := P1.lt
  have hp2 := P2.lt
  generalize w1.heap.size = b at hb2 hz1 hz2 hp1 ⊢
  clear g2 P1 B1
  go_wp2_with fail
  have R0 : RoomS ((w2.alloc (.cells #[.pointer (some ⟨b, 0, none⟩)] 25)).alloc (.cells #[.slice none 0 0] 23)) (w2.heap.size + 2) (w2.heap.size + 1) w2.heap.size w.heap.size b s [] [] c0 :=
    ⟨⟨none, 0, 0, rfl, by have := Boxed.new (w2.alloc (.cells #[.pointer (some ⟨b, 0, none⟩)] 25)) 23 (.slice none 0 0); rwa [World.size_alloc] at this, World.ownsRow_nil _ _ _ _⟩,
      (Boxed.new w2 25 _).alloc _, (P2.alloc _).alloc _, (hb2.grown (World.grownBy_alloc w2 (.cells #[.pointer (some ⟨b, 0, none⟩)] 25) none) (by simp)).grown (World.grownBy_alloc _ (.cells #[.slice none 0 0] 23) none) (by simp)⟩
  have B3 := (B2.alloc B2.size (.cells #[.pointer (some ⟨b, 0, none⟩)] 25)).alloc (by rw [World.size_alloc]; have := B2.size; omega) (.cells #[.slice none 0 0] 23)
  have hz3 : ((w2.alloc (.cells #[.pointer (some ⟨b, 0, none⟩)] 25)).alloc (.cells #[.slice none 0 0] 23)).heap.size = w2.heap.size + 2 := by simp
  generalize (w2.alloc (.cells #[.pointer (some ⟨b, 0, none⟩)] 25)).alloc (.cells #[.slice none 0 0] 23) = w3 at R0 B3 hz3 ⊢
  have hz3' := Nat.le_of_eq hz3.symm
  clear P2 B2 hb2 hz3
  obtain ⟨ba, hba⟩ : ∃ x, x = w2.heap.size + 1 := ⟨_, rfl⟩
  obtain ⟨bb, hbb⟩ : ∃ x, x = w2.heap.size := ⟨_, rfl⟩
  obtain ⟨base, hbase⟩ : ∃ x, x = w2.heap.size + 2 := ⟨_, rfl⟩
  rw [← hba, ← hbase, ← hbb] at R0
  rw [← hbase] at hz3'
  rw [← hba, ← hbb]
  obtain ⟨bc, hbc⟩ : ∃ x, x = w.heap.size := ⟨_, rfl⟩
  rw [← hbc] at R0 ⊢
  have d1 : ba < base ∧ bb < base ∧ bc < base ∧ b < base := by omega
  have d2 : ba ≠ bb := by omega
  have d3 : ba ≠ bc := by omega
  have d4 : bb ≠ bc := by omega
  have d5 : ba ≠ b := by omega
  have d6 : bb ≠ b := by omega
  have d7 : bc ≠ b := by omega
  have d8 : w.heap.size ≤ base ∧ w.heap.size ≤ ba ∧ w.heap.size ≤ bb ∧ w.heap.size ≤ bc ∧ w.heap.size ≤ b := by omega
  clear hba hbb hbase hbc hz1 hz2 hp1 hp2
  refine (room1 base ba bb bc b s [] [] c0 w3 w R0 d1 hz3' d2 d3 d4 d5 d6 d7 (by simp; omega) d8 B3).mono ?_
  rintro e w4 ⟨rfl, l, c1, R4, hl4, B4, hz4⟩
  rw [List.nil_append] at R4 hl4
  clear R0 B3 hz3'
  obtain ⟨⟨ad, n4, cap, hn4, hv4, hr4⟩, hpb4, hpc4, hb4⟩ := R4
  obtain rfl : n4 = s := by rw [hn4]; simpa using hl4
  have hcv := hv4.cell
  have hcb := hpb4.cell
  have HN := Lib.hid hn4
  clear hn4
  go_wp2_with fail
  refine (size_any _ _ hb4).mono ?_
  rintro e w5 ⟨rfl, m5, rfl⟩
  have e5 : (w4.drewN m5).heap = w4.heap := World.heap_drewN _ _
  have R5 : RoomS (w4.drewN m5) base ba bb bc b n4 [] l c1 := ⟨⟨ad, _, cap, HN.out, by rw [Boxed, e5]; exact hv4, owns_heap hr4 e5⟩, by rw [Boxed, e5]; exact hpb4, by rw [Boxed, e5]; exact hpc4, hb4.drewN m5⟩
  have B5 := below_drewN B4 m5
  have hz5 : base ≤ (w4.drewN m5).heap.size := by rw [e5]; exact hz4
  generalize w4.drewN m5 = w5 at R5 B5 hz5 ⊢
  clear e5 hv4 hr4 hpb4 hpc4 hb4 B4 hz4 hcv hcb HN
  obtain ⟨Rn, hRn, hRx⟩ : ∃ r : Nat, r ≤ 5 ∧ (rounds.toNat : Int) % 6 = r := ⟨rounds.toNat % 6, by omega, by omega⟩
  go_wp2_with fail
  obtain ⟨h, hh⟩ : ∃ x, x = (n4 + 1) / 2 := ⟨_, rfl⟩
  have hh2 : h ≤ n4 := by omega
  have hh3 : 1 ≤ h := by omega
  have hh5 : h < n4 ∨ n4 = h := by omega
  obtain ⟨q, hq⟩ : ∃ x, x = n4 - h := ⟨_, rfl⟩
  have hq1 : ((n4 : Int) + 1) / 2 = h := by omega
  have hq2 : (n4 : Int) / 2 = q := by omega
  have hq3 : q + h = n4 := by omega
  have hq4 : 1 ≤ q := by omega
  have hhs : h ≤ 128 := by omega
  have HH := Lib.hid hh
  have HQ := Lib.hid hq
  clear hh hq
  rw [hRx]
  go_loopw [50] (fun v wr => ∃ (t : Nat) (gone l : List UInt8) (c : UInt8), t ≤ Rn ∧ v = .int .u8 t ∧ RoomS wr base ba bb bc b n4 gone l c ∧ l.length = n4 ∧ gone.length ≤ t * 128 ∧ Below w.heap.size w wr ∧ base ≤ wr.heap.size)
    (fun v _ => Rn - (intOf v).toNat)
  case atStart => exact ⟨0, [], l, c1, Nat.zero_le _, rfl, R5, hl4, by simp, B5, hz5⟩
  case round =>
    obtain ⟨t, gone, l, c, ht, rfl, hR, hl, hg, hBr, hzr⟩ := hrel
    obtain ⟨⟨ad, nn, cap, hnn, hv, hrow⟩, hpb, hpc, hbuf⟩ := hR
    have hcv := hv.cell
    have hcb := hpb.cell
    have hnl : nn = gone.length + n4 := by rw [hnn, List.length_append, hl]
    by_cases hlt : t < Rn
    · have hlt' : (t : Int) < Rn := by omega
      have HL := Lib.hid hnl
      have HN := Lib.hid hnn
      clear hnl hnn
      go_wp2_with fail
      have D := discard_full _ _ hbuf hl
      rw [← HH.out] at D
      refine D.mono ?_
      rintro e w6 ⟨rfl, hb6, g6⟩
      go_wp2_with fail
      have hd := d1
      have gA := grown_trans g6 (grown_any (some b) (World.grownBy_alloc w6 (.cells #[.int .i64 gone.length, .int .i64 (gone.length + (h : Nat))] 31) none))
      have hv7 := hv.kept gA (by simp; omega)
      have hpb7 := hpb.kept gA (by simp; omega)
      have hpc7 := hpc.kept gA (by simp; omega)
      have hrow7 := hrow.kept gA (own_ne hrow d1.2.2.2)
      have hb7 := hb6.grown (World.grownBy_alloc w6 (.cells #[.int .i64 gone.length, .int .i64 (gone.length + (h : Nat))] 31) none) (by simp)
      have T7 : Two (w6.alloc (.cells #[.int .i64 gone.length, .int .i64 (gone.length + (h : Nat))] 31)) w6.heap.size gone.length (gone.length + (h : Nat)) := ⟨by rw [World.alloc_heap_new]⟩
      have B7 := below_grown hBr gA hBr.size d8.2.2.2.2
      have hz7 := Nat.le_trans hzr gA.size
      generalize w6.alloc (.cells #[.int .i64 gone.length, .int .i64 (gone.length + (h : Nat))] 31) = w7 at hv7 hpb7 hpc7 hrow7 hb7 T7 B7 hz7 ⊢
      have hpx : w6.heap.size ≠ b ∧ base ≤ w6.heap.size := ⟨by have := hb6.lt; omega, Nat.le_trans hzr g6.size⟩
      generalize w6.heap.size = bx at T7 hpx ⊢
      clear gA hv hpb hpc hrow hbuf hBr hzr hb6 g6 hcv hcb D
      refine region_mix [(0, .inl none), (1, .inl none), (2, .inl none), (3, .inl none), (4, .inl (some 0)), (5, .inl none), (6, .inl (some 0)), (7, .inl none), (8, .inl none), (9, .inl none), (10, .inl none), (11, .inl none), (12, .inl none), (13, .inl none), (14, .inl (some 0)), (16, .inl (some 0)), (17, .inl none), (18, .inl none), (19, .inl none), (20, .inl none), (21, .inl none), (15, .inr [0]), (22, .inr [0]), (23, .inl none), (24, .inl none)]
        (fun _ W => W.cell? ⟨bx, 0, none⟩ = some (.int .i64 gone.length) ∧ W.cell? ⟨bx, 1, none⟩ = some (.int .i64 (gone.length + (h : Nat))) ∧ W.cell? ⟨bb, 0, none⟩ = some (.pointer (some ⟨b, 0, none⟩)) ∧ W.cell? ⟨ba, 0, none⟩ = some (.slice ad nn cap)) (by kernel_rfl) (by kernel_rfl) (fun k => ⟨T7.c0, T7.c1, hpb7.cell, hv7.cell⟩) ?_
      simp only [pickK, List.filterMap_cons, List.filterMap_nil, List.getElem?_toArray, List.getElem?_cons_zero, List.getElem?_cons_succ, Option.map_some]
      have e8 : (w7.drewN 1).heap = w7.heap := World.heap_drewN _ _
      replace hv7 : Boxed (w7.drewN 1) ba 23 (.slice ad nn cap) := by rw [Boxed, e8]; exact hv7
      replace hpb7 : Boxed (w7.drewN 1) bb 25 (.pointer (some ⟨b, 0, none⟩)) := by rw [Boxed, e8]; exact hpb7
      replace hpc7 : Boxed (w7.drewN 1) bc 5 (B c) := by rw [Boxed, e8]; exact hpc7
      replace hrow7 := owns_heap (w' := w7.drewN 1) hrow7 e8
      replace hb7 := hb7.drewN 1
      replace T7 := T7.of_block (w' := w7.drewN 1) (by rw [e8])
      replace B7 := below_drewN B7 1
      replace hz7 : base ≤ (w7.drewN 1).heap.size := by rw [e8]; exact hz7
      generalize w7.drewN 1 = w8 at hv7 hpb7 hpc7 hrow7 hb7 T7 B7 hz7 ⊢
      clear e8
      have f1 : (gone.length : Int) + (h : Nat) - gone.length = h := by omega
      obtain ⟨x, hx⟩ : ∃ x, x = nn - q := ⟨_, rfl⟩
      have hnl := HL.out
      have hx1 : (nn : Int) - q = x := by omega
      have hx2 : (x : Int) ≤ nn := by omega
      have hx3 : x + q = nn := by omega
      have hcapn := owns_cap hrow7
      have hx4 : ¬ cap = x := by omega
      have hx5 : nn - x = q := by omega
      have k1 : IntKind.i64.wrap (h : Int) = h := IntWalk.i64_in _ (by omega)
      have k2 : IntKind.i64.wrap ((n4 : Int) + 1) = n4 + 1 := IntWalk.i64_in _ (by omega)
      have k3 : ((n4 : Int) + 1).tdiv 2 = h := by rw [Int.tdiv_eq_ediv_of_nonneg (by omega)]; exact hq1
      have k4 : (n4 : Int).tdiv 2 = q := by rw [Int.tdiv_eq_ediv_of_nonneg (by omega)]; exact hq2
      have k5 : IntKind.i64.wrap (q : Int) = q := IntWalk.i64_in _ (by omega)
      have k6 : IntKind.i64.wrap (x : Int) = x := IntWalk.i64_in _ (by omega)
      have HX := Lib.hid hx
      have HX3 := Lib.hid hx3
      clear hx hnl hx3
      refine mix_free (fun K hK => ?_)
      go_simp
      refine hK _ ?_
      clear hK K
      refine mix_free (fun K hK => ?_)
      go_simp
      refine hK _ ?_
      clear hK K
      refine mix_free (fun K hK => ?_)
      go_simp
      refine hK _ ?_
      clear hK K
      refine mix_free (fun K hK => ?_)
      go_simp
      refine hK _ ?_
      clear hK K
      refine mix_val (.int .i64 (gone.length + (h : Nat))) (by rfl) (fun w' hw' => ?_) (fun K hK => ?_)
      · obtain ⟨p0, p1, pb0, pa0⟩ := hw'
        go_simp
      go_simp
      refine hK _ ?_
      clear hK K
      refine mix_free (fun K hK => ?_)
      go_simp
      refine hK _ ?_
      clear hK K
      refine mix_val (.int .i64 gone.length) (by rfl) (fun w' hw' => ?_) (fun K hK => ?_)
      · obtain ⟨p0, p1, pb0, pa0⟩ := hw'
        go_simp
      go_simp
      refine hK _ ?_
      clear hK K
      refine mix_free (fun K hK => ?_)
      go_simp
      refine hK _ ?_
      clear hK K
      refine mix_free (fun K hK => ?_)
      go_simp
      refine hK _ ?_
      clear hK K
      refine mix_free (fun K hK => ?_)
      go_simp
      refine hK _ ?_
      clear hK K
      refine mix_free (fun K hK => ?_)
      go_simp
      refine hK _ ?_
      clear hK K
      refine mix_free (fun K hK => ?_)
      go_simp
      refine hK _ ?_
      clear hK K
      refine mix_free (fun K hK => ?_)
      go_simp
      refine hK _ ?_
      clear hK K
      refine mix_free (fun K hK => ?_)
      go_simp
      refine hK _ ?_
      clear hK K
      refine mix_val (.pointer (some ⟨b, 0, none⟩)) (by rfl) (fun w' hw' => ?_) (fun K hK => ?_)
      · obtain ⟨p0, p1, pb0, pa0⟩ := hw'
        go_simp
      go_simp
      refine hK _ ?_
      clear hK K
      refine mix_val (.slice ad nn cap) (by rfl) (fun w' hw' => ?_) (fun K hK => ?_)
      · obtain ⟨p0, p1, pb0, pa0⟩ := hw'
        go_simp
      go_simp
      refine hK _ ?_
      clear hK K
      refine mix_free (fun K hK => ?_)
      go_simp
      refine hK _ ?_
      clear hK K
      refine mix_free (fun K hK => ?_)
      go_simp
      refine hK _ ?_
      clear hK K
      refine mix_free (fun K hK => ?_)
      go_simp
      refine hK _ ?_
      clear hK K
      refine mix_free (fun K hK => ?_)
      go_simp
      refine hK _ ?_
      clear hK K
      refine mix_free (fun K hK => ?_)
      go_simp
      refine hK _ ?_
      clear hK K
      refine mix_step (fun K hK => ?_) (keep1 ⟨T7.c0, T7.c1, hpb7.cell, hv7.cell⟩)
      go_wp2_with fail
      refine (bytes_any _ _ hb7).mono ?_
      rintro e w9 ⟨gx, cx, rfl, ox, g9⟩
      have hv9 := hv7.kept g9 (by simp)
      have hpb9 := hpb7.kept g9 (by simp)
      have hpc9 := hpc7.kept g9 (by simp)
      have hrow9 := hrow7.kept g9 (Classical.em _)
      have hb9 := hb7.grown g9 (by simp)
      have T9 := T7.grown g9 (by simp)
      have B9 := B7.trans ((below_of_grown g9).mono B7.size)
      have hz9 := Nat.le_trans hz7 g9.size
      clear hv7 hpb7 hpc7 hrow7 hb7 T7 B7 hz7 g9
      go_wp2_with fail
      refine hK _ _ (keep1 ⟨T9.c0, T9.c1, hpb9.cell, hv9.cell⟩) ?_
      clear hK K
      have hdrop : (gone ++ l).drop x = l.drop h := by
        rw [show x = gone.length + h by have := HX3.out; have := HL.out; omega, List.drop_append]
        simp
      have sA := (slc_of_owns hrow9).1.add x
      rw [hdrop] at sA
      refine mix_step (fun K hK => ?_) (keep1 ⟨T9.c0, T9.c1, hpb9.cell, hv9.cell⟩)
      go_wp2_with fail
      refine (equal_any (l.drop h) (l.drop h) _ _ _ _ _ _ _ ?hn ?hm (slc_of_owns ox).1 sA).mono ?_
      case hn => first | rfl | (rw [List.length_drop, hl])
      case hm => rw [List.length_drop, hl]; omega
      rintro e _ ⟨rfl, rfl⟩
      rw [show (l.drop h == l.drop h) = true by simp]
      go_wp2_with fail
      refine hK _ _ (keep1 ⟨T9.c0, T9.c1, hpb9.cell, hv9.cell⟩) ?_
      clear hK K
      refine mix_free (fun K hK => ?_)
      go_simp
      refine hK _ ?_
      clear hK K
      refine mix_free (fun K hK => ?_)
      go_simp
      refine hK _ ?_
      clear hK K
      refine mix_nil ?_
      have hcb9 := hpb9.cell
      go_wp2_with fail
      refine (discard_room _ _ hb9 (by rw [List.length_drop, hl]; omega)).mono ?_
      rintro e w10 ⟨rfl, g10⟩
      have gB := grown_trans g10 (World.grownBy_alloc w10 (.cells #[.int .i64 0, .int .i64 0] 31) none)
      have hv11 := hv9.kept gB (by simp)
      have hpb11 := hpb9.kept gB (by simp)
      have hpc11 := hpc9.kept gB (by simp)
      have hrow11 := hrow9.kept gB (Classical.em _)
      have hb11 := hb9.grown gB (by simp)
      have B11 := B9.trans ((below_of_grown gB).mono B9.size)
      have hz11 := Nat.le_trans hz9 gB.size
      clear hv9 hpb9 hpc9 hrow9 hb9 T9 B9 hz9 g10 gB hcb9 ox sA
      go_wp2_with fail
      generalize w10.alloc (.cells #[.int .i64 0, .int .i64 0] 31) = w11 at hv11 hpb11 hpc11 hrow11 hb11 B11 hz11 ⊢
      have hgl : (gone ++ l.take h).length = gone.length + h := by rw [List.length_append, List.length_take, hl]; omega
      have R11 : RoomS w11 base ba bb bc b n4 (gone ++ l.take h) (l.drop h) c :=
        ⟨⟨ad, nn, cap, by rw [List.append_assoc, List.take_append_drop]; exact HN.out, hv11, by rw [List.append_assoc, List.take_append_drop]; exact hrow11⟩, hpb11, hpc11, by rw [hgl]; exact hb11⟩
      have hnl := HL.out
      refine (room1 base ba bb bc b n4 (gone ++ l.take h) (l.drop h) c w11 w R11 d1 hz11 d2 d3 d4 d5 d6 d7 (by rw [hgl]; omega) d8 B11).mono ?_
      rintro e w12 ⟨rfl, new, c', R12, hl12, B12, hz12⟩
      generalize l.drop h ++ new = l2 at R12 hl12
      have R12' := Lib.hid R12
      obtain ⟨⟨ad2, n12, cap2, hn12, hv12, hr12⟩, hpb12, hpc12, hb12⟩ := R12
      have hcv12 := hv12.cell
      have hn13 : (nn : Int) + h = n12 := by rw [hn12, List.length_append, hgl, hl12]; omega
      have hnb : (nn : Int) ≤ 2000 := by omega
      have HL12 := Lib.hid hl12
      have HGL := Lib.hid hgl
      clear hn12 hnl hl12 hgl R11 hv11 hpb11 hpc11 hrow11 hb11 B11 hz11
      go_wp2_with fail
      go_roundw
      case rel => exact ⟨t + 1, _, l2, c', by omega, by go_num, R12'.out, HL12.out, by rw [HGL.out]; omega, B12, hz12⟩
      case measure => simp [intOf]; omega
    · obtain rfl : t = Rn := by omega
      have hge : ¬ ((t : Int) < t) := by omega
      have HL := Lib.hid hnl
      have HN := Lib.hid hnn
      clear hnl hnn
      go_wp2_with fail
      have hcapn := owns_cap hrow
      have hnl := HL.out
      have hx1 : (nn : Int) - n4 = gone.length := by omega
      have k6 : IntKind.i64.wrap (gone.length : Int) = gone.length := IntWalk.i64_in _ (by omega)
      have hx2 : (gone.length : Int) ≤ nn := by omega
      have hx4 : ¬ cap = gone.length := by omega
      have hx5 : nn - gone.length = n4 := by omega
      have sA := (slc_of_owns hrow).1.add gone.length
      rw [List.drop_left] at sA
      clear hnl
      refine region_mix [(0, .inl (some 0)), (2, .inl (some 0)), (3, .inl (some 0)), (4, .inl none), (5, .inl none), (6, .inl none), (7, .inl none), (1, .inr [0]), (8, .inr [0]), (9, .inl none)]
        (fun _ W => W.cell? ⟨bb, 0, none⟩ = some (.pointer (some ⟨b, 0, none⟩)) ∧ W.cell? ⟨ba, 0, none⟩ = some (.slice ad nn cap)) (by kernel_rfl) (by kernel_rfl) (fun k => ⟨hcb, hcv⟩) ?_
      simp only [pickK, List.filterMap_cons, List.filterMap_nil, List.getElem?_toArray, List.getElem?_cons_zero, List.getElem?_cons_succ, Option.map_some]
      have e8 : (wr.drewN 1).heap = wr.heap := World.heap_drewN _ _
      replace hv : Boxed (wr.drewN 1) ba 23 (.slice ad nn cap) := by rw [Boxed, e8]; exact hv
      replace hpb : Boxed (wr.drewN 1) bb 25 (.pointer (some ⟨b, 0, none⟩)) := by rw [Boxed, e8]; exact hpb
      replace hbuf := hbuf.drewN 1
      replace sA := sA.below (below_drewN (Below.refl _ _) 1) (Nat.le_refl _)
      replace hBr := below_drewN hBr 1
      clear hcv hcb
      generalize wr.drewN 1 = w8 at hv hpb hbuf sA hBr ⊢
      clear e8 hrow
      refine mix_val (.pointer (some ⟨b, 0, none⟩)) (by rfl) (fun w' hw' => ?_) (fun K hK => ?_)
      · obtain ⟨pb0, pa0⟩ := hw'
        go_simp
      go_simp
      refine hK _ ?_
      clear hK K
      refine mix_val (.slice ad nn cap) (by rfl) (fun w' hw' => ?_) (fun K hK => ?_)
      · obtain ⟨pb0, pa0⟩ := hw'
        go_simp
      go_simp
      refine hK _ ?_
      clear hK K
      refine mix_val (.slice ad nn cap) (by rfl) (fun w' hw' => ?_) (fun K hK => ?_)
      · obtain ⟨pb0, pa0⟩ := hw'
        go_simp
      go_simp
      refine hK _ ?_
      clear hK K
      refine mix_free (fun K hK => ?_)
      go_simp
      refine hK _ ?_
      clear hK K
      refine mix_free (fun K hK => ?_)
      go_simp
      refine hK _ ?_
      clear hK K
      refine mix_free (fun K hK => ?_)
      go_simp
      refine hK _ ?_
      clear hK K
      refine mix_free (fun K hK => ?_)
      go_simp
      refine hK _ ?_
      clear hK K
      refine mix_step (fun K hK => ?_) (keep1 ⟨hpb.cell, hv.cell⟩)
      go_wp2_with fail
      refine (bytes_any _ _ hbuf).mono ?_
      rintro e w9 ⟨gx, cx, rfl, ox, g9⟩
      have hv9 := hv.kept g9 (by simp)
      have hpb9 := hpb.kept g9 (by simp)
      have B9 := hBr.trans ((below_of_grown g9).mono hBr.size)
      replace sA := sA.below (below_of_grown g9) (Nat.le_refl _)
      go_wp2_with fail
      refine hK _ _ (keep1 ⟨hpb9.cell, hv9.cell⟩) ?_
      clear hK K
      refine mix_step (fun K hK => ?_) (keep1 ⟨hpb9.cell, hv9.cell⟩)
      go_wp2_with fail
      refine (equal_any l l _ _ _ _ _ _ _ ?hn2 ?hm2 (slc_of_owns ox).1 sA).mono ?_
      case hn2 => first | rfl | exact hl
      case hm2 => exact hl
      rintro e _ ⟨rfl, rfl⟩
      rw [show (l == l) = true by simp]
      go_wp2_with fail
      refine hK _ _ (keep1 ⟨hpb9.cell, hv9.cell⟩) ?_
      clear hK K
      refine mix_free (fun K hK => ?_)
      go_simp
      refine hK _ ?_
      clear hK K
      refine mix_nil ?_
      go_wp2_with fail
      go_ret
      exact ⟨rfl, B9⟩
end Go.Proofs.Ytadoobkieehajaa
