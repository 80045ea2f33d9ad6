/- The walk of BufferApart. -/
import Derived.Test.YtadoobkieehajaaM
import Derived.Test.YtadoobkieehajaaS
namespace Go.Proofs.Ytadoobkieehajaa
open Go.RowKit Go.Shelf

theorem or3 {a b c d : Prop} (h : a ∨ b ∨ c) (h1 : a → d) (h2 : b → d) (h3 : c → d) : d := h.elim h1 fun h => h.elim h2 h3
theorem min_some (x k : Nat) (K : Int) (hK : K = k) : ∃ M : Nat, M ≤ x ∧ M ≤ k ∧ (if K < (x : Int) then K else (x : Int)) = (M : Int) ∧ max (M : Int) 0 = M := by
  subst hK
  by_cases h : (k : Int) < x
  · exact ⟨k, by omega, Nat.le_refl _, by simp [h], by omega⟩
  · exact ⟨x, Nat.le_refl _, by omega, by simp [h], by omega⟩
theorem size_some (n : UInt8) : ∃ s : Nat, 2 ≤ s ∧ s ≤ 256 ∧ ∀ w, Calls Try.prog 12 #[.int .u8 n.toNat] w fun e w' => e = .returned (.int .i64 s) ∧ w = w' :=
  ⟨2 + n.toNat % 255, by omega, by omega, size_law n⟩

set_option maxRecDepth 100000 in
set_option maxHeartbeats 1000000 in
theorem apart_walk (n : UInt8) (at' : Nat) (hat : at' ≤ 4294967295) (al aa : Option Addr) (capl capa : Nat) (l acts : List UInt8) (elder : Bool) (w : World) (hl : Slc w al l) (hcl : l.length ≤ capl) (hml : capl ≤ maxLen) (ha : Slc w aa acts) (hca : acts.length ≤ capa) (hma : capa ≤ maxLen) :
    Calls Try.prog 7 #[.int .u8 n.toNat, .int .u32 at', .slice al l.length capl, .slice aa acts.length capa, .bool elder] w fun e w' => e = .returned (.bool true) ∧ Below w.heap.size w w' := by
  obtain ⟨s, hs1, hs2, hsz⟩ := size_some n
  obtain ⟨M, hM, hM2, hq, hq0⟩ := min_some l.length 300 300 rfl
  obtain ⟨A, hA, hA2, hqa, hqa0⟩ := min_some acts.length 60 60 rfl
  go_enter Try.func7, Try.ntmps7
  go_wp2_with fail
  refine (awake_any w).mono ?_
  rintro e w1 ⟨rfl, g1⟩
  have B1 := below_of_grown g1
  have hz := B1.size
  go_wp2_with fail
  refine (hsz w1).mono ?_
  rintro e _ ⟨rfl, rfl⟩
  go_wp2_with fail
  refine (new_ok s at' w1 hs1 hs2 (by omega)).mono ?_
  rintro e w2 ⟨rfl, hb2, g2⟩
  have B2 := B1.trans ((below_of_grown g2).mono hz)
  clear g1 B1 g2
  generalize w1.heap.size = b at hb2 hz ⊢
  go_wp2_with fail
  go_loopw [46] (fun v wr => ∃ (j o' : Nat) (l' : List UInt8), j ≤ M ∧ v = .int .i64 j ∧ IsBuf wr b s o' l' ∧ o' + l'.length ≤ at' + j ∧ Below w.heap.size w wr)
    (fun v _ => M - (intOf v).toNat)
  case atStart => exact ⟨0, at', [], Nat.zero_le _, rfl, hb2, by simp, B2⟩
  case round =>
    obtain ⟨j, o', l', hj, rfl, hbr, ho, hBr⟩ := hrel
    by_cases hlt : j < M
    · have hlt' : (j : Int) < M := by omega
      obtain rfl | ⟨bb, off, rfl, hbl, hbc⟩ := hl.below hBr (Nat.le_refl _)
      · simp at hM; omega
      have hcj := hbc j (by omega)
      have hfit := hbr.fits
      go_wp2_with fail
      refine (full_any _ _ hbr).mono ?_
      rintro e w3 ⟨rfl, m3, rfl⟩
      replace hbr := hbr.drewN m3
      replace hBr := below_drewN hBr m3
      generalize wr.drewN m3 = w3 at hbr hBr ⊢
      clear hcj
      by_cases hf : l'.length = s
      · have hf' : ((l'.length : Int) == s) = true := by simp; omega
        go_wp2_with fail
        refine (discard_full _ _ hbr hf).mono ?_
        rintro e w4 ⟨rfl, hb4, g4⟩
        have B4 := below_grown hBr g4 hBr.size hz
        go_wp2_with fail
        have hb5 := hb4.grown (World.grownBy_alloc w4 (.cells #[.int .i64 o', .int .i64 (o' + ((s : Int) + 1) / 2)] 31) none) (by simp)
        have B5 := B4.alloc B4.size (.cells #[.int .i64 o', .int .i64 (o' + ((s : Int) + 1) / 2)] 31)
        have hdl : (l'.drop ((s + 1) / 2)).length = s - (s + 1) / 2 := by rw [List.length_drop, hf]
        generalize w4.alloc (.cells #[.int .i64 o', .int .i64 (o' + ((s : Int) + 1) / 2)] 31) = w5 at hb5 B5 ⊢
        refine (put_ok _ _ _ hb5 (by omega) (by omega)).mono ?_
        rintro e w6 ⟨rfl, hb6, g6⟩
        go_wp2_with fail
        go_roundw
        case rel =>
          exact ⟨j + 1, _, _, by omega, by go_num, hb6, by rw [List.length_append, hdl]; simp; omega, below_grown B5 g6 B5.size hz⟩
        case measure => simp [intOf]; omega
      · have hf' : ((l'.length : Int) == s) = false := by simp; omega
        go_wp2_with fail
        refine (put_ok _ _ _ hbr (by omega) (by omega)).mono ?_
        rintro e w6 ⟨rfl, hb6, g6⟩
        go_wp2_with fail
        go_roundw
        case rel =>
          exact ⟨j + 1, _, _, by omega, by go_num, hb6, by rw [List.length_append]; simp; omega, below_grown hBr g6 hBr.size hz⟩
        case measure => simp [intOf]; omega
    · obtain rfl : j = M := by omega
      have hge : ¬ ((j : Int) < j) := by omega
      go_wp2_with fail
      refine (copy_any _ _ hbr).mono ?_
      rintro e w3 ⟨rfl, hc3, g3⟩
      have hb3 := hbr.grown g3 (by simp)
      have B3 := hBr.trans ((below_of_grown g3).mono hBr.size)
      have hwr := hBr.size
      have hbw := hbr.lt
      generalize wr.heap.size = c at hc3 hwr hbw ⊢
      clear g3 hbr hBr
      go_wp2_with fail
      refine (part_any _ _ hc3).mono ?_
      rintro e w4 ⟨rfl, g4⟩
      have hb4 := hb3.grown g4 (by simp)
      have hc4 := hc3.grown g4 (by simp)
      have B4 := B3.trans ((below_of_grown g4).mono B3.size)
      clear g4 hb3 hc3 B3
      go_wp2_with fail
      refine (part_any _ _ hb4).mono ?_
      rintro e w5 ⟨rfl, g5⟩
      have hb5 := hb4.grown g5 (by simp)
      have hc5 := hc4.grown g5 (by simp)
      have B5 := B4.trans ((below_of_grown g5).mono B4.size)
      clear g5 hb4 hc4 B4
      go_wp2_with fail
      refine (size_any _ _ hc5).mono ?_
      rintro e w6 ⟨rfl, m6, rfl⟩
      go_wp2_with fail
      refine (size_any _ _ (hb5.drewN m6)).mono ?_
      rintro e w7 ⟨rfl, m7, rfl⟩
      replace hb5 := (hb5.drewN m6).drewN m7
      replace hc5 := (hc5.drewN m6).drewN m7
      replace B5 := below_drewN (below_drewN B5 m6) m7
      generalize (w5.drewN m6).drewN m7 = w7 at hb5 hc5 B5 ⊢
      go_wp2_with fail
      refine (bytes_any _ _ hc5).mono ?_
      rintro e w8 ⟨gc, cc, rfl, oc, g8⟩
      go_wp2_with fail
      refine (bytes_any _ _ (hb5.grown g8 (by simp))).mono ?_
      rintro e w9 ⟨gb, cb, rfl, ob, g9⟩
      have g89 := grown_trans g8 g9
      have hb9 := hb5.grown g89 (by simp)
      have hc9 := hc5.grown g89 (by simp)
      have B9 := B5.trans ((below_of_grown g89).mono B5.size)
      go_wp2_with fail
      refine (equal_any l' l' _ _ _ _ _ _ w9 rfl rfl ((slc_of_owns oc).1.below (below_of_grown g9) (Nat.le_refl _)) (slc_of_owns ob).1).mono ?_
      rintro e _ ⟨rfl, rfl⟩
      rw [show (l' == l') = true by simp]
      clear hb5 hc5 B5 g8 g9 g89 oc ob
      cases elder
      case' false =>
        go_wp2_with fail
        have hgs := hb9
        have hst := hc9
        clear hb9 hc9
        obtain ⟨gs, rfl⟩ : ∃ x, x = b := ⟨b, rfl⟩
        obtain ⟨st, rfl⟩ : ∃ x, x = c := ⟨c, rfl⟩
        have hz1 : w.heap.size ≤ st := hwr
        have hz2 : w.heap.size ≤ gs := hz
        have hne : gs ≠ st := by omega
      case' true =>
        go_wp2_with fail
        have hgs := hc9
        have hst := hb9
        clear hb9 hc9
        obtain ⟨st, rfl⟩ : ∃ x, x = b := ⟨b, rfl⟩
        obtain ⟨gs, rfl⟩ : ∃ x, x = c := ⟨c, rfl⟩
        have hz1 : w.heap.size ≤ st := hz
        have hz2 : w.heap.size ≤ gs := hwr
        have hne : gs ≠ st := by omega
      all_goals
        refine (part_any _ _ hst).mono ?_
        rintro e w10 ⟨rfl, g10⟩
        go_wp2_with fail
        refine (bytes_any _ _ (hst.grown g10 (by simp))).mono ?_
        rintro e w11 ⟨ga, ca, rfl, oa, g11⟩
        have g1011 := grown_trans g10 g11
        have hgs10' := (hgs.grown g10 (by simp)).lt
        replace hst := hst.grown g1011 (by simp)
        replace hgs := hgs.grown g1011 (by simp)
        have B11 := B9.trans ((below_of_grown g1011).mono B9.size)
        go_wp2_with fail
        have hw10 := g10.size
        have hst10 := hst.lt
        have hgs10 : gs < w10.heap.size := hgs10'
        have hga : ga ≠ gs := by
          have := (oa.lt ga rfl).1
          omega
        have T12 : Two (w11.alloc (.cells #[.int .i64 o', .int .i64 (o' + l'.length)] 31)) w11.heap.size o' (o' + l'.length) := ⟨by rw [World.alloc_heap_new]⟩
        have hst12 := hst.grown (World.grownBy_alloc w11 (.cells #[.int .i64 o', .int .i64 (o' + l'.length)] 31) none) (by simp)
        have hgs12 := hgs.grown (World.grownBy_alloc w11 (.cells #[.int .i64 o', .int .i64 (o' + l'.length)] 31) none) (by simp)
        have B12 := B11.alloc B11.size (.cells #[.int .i64 o', .int .i64 (o' + l'.length)] 31)
        have s12 := (slc_of_owns (oa.alloc (.cells #[.int .i64 o', .int .i64 (o' + l'.length)] 31))).1
        have hbx : w11.heap.size ≠ gs := by have := hgs.lt; omega
        generalize w11.alloc (.cells #[.int .i64 o', .int .i64 (o' + l'.length)] 31) = w12 at T12 hst12 hgs12 B12 s12 ⊢
        generalize w11.heap.size = bx at T12 hbx ⊢
        clear hst hgs B11 oa g10 g11 g1011 B9
        go_loopw [105] (fun v wr => ∃ (i og : Nat) (lg : List UInt8), i ≤ A ∧ v = .int .i64 i ∧ IsBuf wr gs s og lg ∧ og + lg.length ≤ at' + 300 + i ∧ IsBuf wr st s o' l' ∧ Two wr bx o' (o' + l'.length) ∧ Slc wr (some ⟨ga, 0, none⟩) l' ∧ Below w.heap.size w wr)
          (fun v _ => A - (intOf v).toNat)
        case atStart => exact ⟨0, o', l', Nat.zero_le _, rfl, hgs12, by omega, hst12, T12, s12, B12⟩
        case round =>
          obtain ⟨i, og, lg, hi, rfl, hgr, hog, hsr, hTr, hSr, hBr⟩ := hrel
          by_cases hlt : i < A
          · have hlt' : (i : Int) < A := by omega
            obtain rfl | ⟨bb, off, rfl, hbl, hbc⟩ := ha.below hBr (Nat.le_refl _)
            · simp at hA; omega
            have hci := hbc i (by omega)
            have hm : (acts[i].toNat : Int) % 3 = 0 ∨ (acts[i].toNat : Int) % 3 = 1 ∨ (acts[i].toNat : Int) % 3 = 2 := by omega
            refine or3 hm (fun hm => ?_) (fun hm => ?_) (fun hm => ?_)
            go_wp2_with fail
            refine (put_some _ _ _ hgr (by omega)).mono ?_
            rintro e w13 ⟨k, og', lg', rfl, hg13, hog', g13⟩
            rotate_left
            go_wp2_with fail
            refine (take_some _ _ _ hgr).mono ?_
            rintro e w13 ⟨k, og', lg', rfl, hg13, hog', g13⟩
            rotate_left
            go_wp2_with fail
            refine (discard_some _ _ hgr).mono ?_
            rintro e w13 ⟨k, og', lg', rfl, hg13, hog', g13⟩
            rotate_left
            all_goals
              have hs13 := hsr.grown g13 (by simp; omega)
              have T13 := hTr.grown g13 (by simp; omega)
              have S13 := hSr.grown g13 (by simp; omega)
              have B13 := below_grown hBr g13 hBr.size hz2
              clear hci hbc hgr hsr hTr hSr hBr g13
              have c0 := T13.c0
              have c1 := T13.c1
              go_wp2_with fail
              refine region_mix [(0, .inl none), (2, .inl (some 0)), (1, .inr [0]), (3, .inl none), (4, .inl none), (5, .inl none), (7, .inl none), (6, .inr [0]), (8, .inr [0]), (9, .inl none), (10, .inl none)]
                (fun _ W => W.cell? ⟨bx, 0, none⟩ = some (.int .i64 o') ∧ W.cell? ⟨bx, 1, none⟩ = some (.int .i64 (o' + l'.length))) (by kernel_rfl) (by kernel_rfl) (fun k => ⟨c0, c1⟩) ?_
              simp only [pickK, List.filterMap_cons, List.filterMap_nil, List.getElem?_toArray, List.getElem?_cons_zero, List.getElem?_cons_succ, Option.map_some]
              replace hs13 := hs13.drewN 1
              replace hg13 := hg13.drewN 1
              replace T13 := T13.of_block (w' := w13.drewN 1) (by rw [World.heap_drewN])
              replace S13 := S13.below (below_drewN (Below.refl _ _) 1) (Nat.le_refl _)
              replace B13 := below_drewN B13 1
              clear c0 c1
              generalize w13.drewN 1 = w13 at hs13 hg13 T13 S13 B13 ⊢
              refine mix_free (fun K hK => ?_)
              go_simp
              refine hK _ ?_
              clear hK K
              refine mix_val (.agg #[.int .i64 o', .int .i64 (o' + l'.length)]) (by rfl) (fun w' hw' => ?_) (fun K hK => ?_)
              · obtain ⟨c0, c1⟩ := hw'
                go_simp
              go_simp
              refine hK _ ?_
              clear hK K
              refine mix_step (fun K hK => ?_) (keep1 ⟨T13.c0, T13.c1⟩)
              go_wp2_with fail
              refine (part_any _ _ hs13).mono ?_
              rintro e w14 ⟨rfl, g14⟩
              have hs14 := hs13.grown g14 (by simp)
              have hg14 := hg13.grown g14 (by simp)
              have T14 := T13.grown g14 (by simp)
              have S14 := S13.grown g14 (by simp)
              have B14 := B13.trans ((below_of_grown g14).mono B13.size)
              clear hs13 hg13 T13 S13 B13 g14
              go_wp2_with fail
              refine hK _ _ (keep1 ⟨T14.c0, T14.c1⟩) ?_
              clear hK K
              refine mix_free (fun K hK => ?_)
              go_simp
              refine hK _ ?_
              clear hK K
              refine mix_free (fun K hK => ?_)
              go_simp
              refine hK _ ?_
              clear hK K
              refine mix_free (fun K hK => ?_)
              go_simp
              refine hK _ ?_
              clear hK K
              refine mix_free (fun K hK => ?_)
              go_simp
              refine hK _ ?_
              clear hK K
              refine mix_step (fun K hK => ?_) (keep1 ⟨T14.c0, T14.c1⟩)
              go_wp2_with fail
              refine (bytes_any _ _ hs14).mono ?_
              rintro e w15 ⟨gx, cx, rfl, ox, g15⟩
              have hs15 := hs14.grown g15 (by simp)
              have hg15 := hg14.grown g15 (by simp)
              have T15 := T14.grown g15 (by simp)
              have S15 := S14.grown g15 (by simp)
              have B15 := B14.trans ((below_of_grown g15).mono B14.size)
              clear hs14 hg14 T14 S14 B14 g15
              go_wp2_with fail
              refine hK _ _ (keep1 ⟨T15.c0, T15.c1⟩) ?_
              clear hK K
              refine mix_step (fun K hK => ?_) (keep1 ⟨T15.c0, T15.c1⟩)
              go_wp2_with fail
              refine (equal_any l' l' _ _ _ _ _ _ _ rfl rfl (slc_of_owns ox).1 S15).mono ?_
              rintro e _ ⟨rfl, rfl⟩
              rw [show (l' == l') = true by simp]
              go_wp2_with fail
              refine hK _ _ (keep1 ⟨T15.c0, T15.c1⟩) ?_
              clear hK K
              refine mix_free (fun K hK => ?_)
              go_simp
              refine hK _ ?_
              clear hK K
              refine mix_free (fun K hK => ?_)
              go_simp
              refine hK _ ?_
              clear hK K
              refine mix_nil ?_
              go_wp2_with fail
              go_roundw
              case rel => exact ⟨i + 1, og', lg', by omega, by go_num, hg15, by omega, hs15, T15, S15, B15⟩
              case measure => simp [intOf]; omega
          · obtain rfl : i = A := by omega
            have hge : ¬ ((i : Int) < i) := by omega
            go_wp2_with fail
            go_ret
            exact ⟨rfl, hBr⟩
end Go.Proofs.Ytadoobkieehajaa
