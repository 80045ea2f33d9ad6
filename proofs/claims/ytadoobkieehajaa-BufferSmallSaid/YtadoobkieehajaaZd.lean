/- One act: Find. -/
import Derived.Test.YtadoobkieehajaaZ
import Derived.Deep.DeepCutAuto
namespace Go.Proofs.Ytadoobkieehajaa
open Go.RowKit Go.Shelf

set_option maxRecDepth 100000 in
set_option maxHeartbeats 4000000 in
theorem do_find (b s o g n cap : Nat) (ad : Option Addr) (all : List UInt8) (kind c : UInt8) (nn : Int) (ax : Option Addr) (m cx : Nat) (xs : List UInt8) (w : World) (hB : IsBuf w b s (o + g) (all.drop g)) (hR : RefS w b ad n cap g all) (hn : n ≤ 90000) (ho1 : (o : Int) ≤ 281474976710656)
    (hx : Slc w ax xs) (hxb : xs = [] ∨ ∀ y, ax = some y → y.block ≠ b) (hm : xs.length = m) (hmc : m ≤ cx) (hmb : m ≤ 100000) (hk : (kind.toNat : Int) % 8 = 6) :
    Calls Try.prog 35 #[.pointer (some ⟨b, 0, none⟩), .agg #[.int .i64 s, .int .i64 o, .slice ad n cap, .int .i64 g], .agg #[.int .u8 kind.toNat, .int .u8 c.toNat, .int .i64 nn, .slice ax m cx]] w fun e w' => ∃ (ad' : Option Addr) (n' cap' g' : Nat) (all' : List UInt8), e = .returned (.tuple #[.agg #[.int .i64 s, .int .i64 o, .slice ad' n' cap', .int .i64 g'], .bool true]) ∧ IsBuf w' b s (o + g') (all'.drop g') ∧ RefS w' b ad' n' cap' g' all' ∧ n' ≤ n + 1 ∧ w.grownBy w' (some b) ∧ (ad' = ad ∨ ∀ y, ad' = some y → w.heap.size ≤ y.block) := by
  subst hm
  have D := DoS.start w b s o g n cap ad all kind c nn ax xs.length cx xs hB.lt hR hx hxb
  have hln := hR.held_len
  have hle := hR.le
  have hgb : g ≤ 100000 := by omega
  have ho0 : (0 : Int) ≤ o := by omega
  have hog : ((o + g : Nat) : Int) = o + g := by omega
  have hfit := hB.fits
  have hs2 := hB.hi
  have hs1 := hB.lo
  rw [hln] at hfit
  have gn := grown_trans (grown_trans (World.grownBy_alloc w (.cells #[.int .i64 s, .int .i64 o, .slice ad n cap, .int .i64 g] 72) none) (World.grownBy_alloc _ (.cells #[.int .u8 kind.toNat, .int .u8 c.toNat, .int .i64 nn, .slice ax xs.length cx] 57) none)) (World.grownBy_alloc _ (.cells #[.int .i64 0, .int .i64 0, .slice none 0 0, .int .i64 0] 72) none)
  replace hB := hB.grown gn (by simp)
  clear gn hR hx
  go_enter Try.func35, Try.ntmps35
  go_wp2_with fail
  generalize ((w.alloc (.cells #[.int .i64 s, .int .i64 o, .slice ad n cap, .int .i64 g] 72)).alloc (.cells #[.int .u8 kind.toNat, .int .u8 c.toNat, .int .i64 nn, .slice ax xs.length cx] 57)).alloc (.cells #[.int .i64 0, .int .i64 0, .slice none 0 0, .int .i64 0] 72) = w1 at D hB ⊢
  have HX := Lib.hid D.sz
  generalize w.heap.size = x at D ⊢
  rw [show x + 1 + 1 = x + 2 from rfl]
  refine (from_any s o ad n cap g w1 ⟨ho0, ho1⟩ hgb).mono ?_
  rintro e w2 ⟨rfl, gn⟩
  replace hB := hB.grown gn (by simp)
  replace D := D.grown gn (.inl rfl)
  clear gn
  by_cases hout : nn < 0 ∨ (0 ≤ nn ∧ ((n - g : Nat) : Int) < nn)
  · have HOUT := Lib.hid hout
    clear hout
    have c0 := D.rb.c0
    have c1 := D.rb.c1
    have c2 := D.rb.c2
    have c3 := D.rb.c3
    have a0 := D.act.c0
    have a1 := D.act.c1
    have a2 := D.act.c2
    have a3 := D.act.c3
    go_wp2_with fail
    refine (clone_any xs ax xs.length cx _ rfl (by omega) D.row).mono ?_
    rintro e w3 ⟨v3, rfl, os, bl⟩
    obtain ⟨av, cv, rfl, hcv⟩ := own_slice os
    have gn := grown_of_below none bl
    replace D := D.grown gn (.inl rfl)
    replace hB := hB.grown gn (by simp)
    clear gn bl
    clear c0 c1 c2 c3 a0 a1 a2 a3
    go_upto_region 26 with fail
    refine region_mix [(0, .inl (some 0)), (1, .inl none), (2, .inl none), (3, .inl none), (4, .inl (some 0)), (6, .inl (some 0)), (7, .inl none), (8, .inl (some 0)), (9, .inl none), (10, .inl (some 0)), (5, .inr [0]), (11, .inr [0]), (12, .inl none), (13, .inl none), (14, .inl none), (15, .inl none), (16, .inl (some 0)), (17, .inr [0]), (18, .inl none), (19, .inr [0]), (20, .inl none)]
      (fun _ W => W.cell? ⟨x, 0, none⟩ = some (.int .i64 s) ∧ W.cell? ⟨x, 1, none⟩ = some (.int .i64 o) ∧ W.cell? ⟨x, 2, none⟩ = some (.slice ad n cap) ∧ W.cell? ⟨x, 3, none⟩ = some (.int .i64 g) ∧ W.cell? ⟨x + 1, 2, none⟩ = some (.int .i64 nn) ∧ W.cell? ⟨x + 1, 3, none⟩ = some (.slice ax xs.length cx)) (by kernel_rfl) (by kernel_rfl) (fun _ => ⟨D.rb.c0, D.rb.c1, D.rb.c2, D.rb.c3, D.act.c2, D.act.c3⟩) ?_
    simp only [pickK, List.filterMap_cons, List.filterMap_nil, List.getElem?_toArray, List.getElem?_cons_zero, List.getElem?_cons_succ, Option.map_some]
    have gn := grown_drewN w3 1 none
    replace D := D.grown gn (.inl rfl)
    replace hB := hB.grown gn (by simp)
    replace os := os.kept gn (Classical.em _)
    clear gn
    generalize w3.drewN 1 = w4 at D hB os ⊢
    refine mix_val (.agg #[.int .i64 s, .int .i64 o, .slice ad n cap, .int .i64 g]) (by rfl) (fun w' hw' => ?_) (fun K hK => ?_)
    · obtain ⟨p0, p1, p2, p3, p4, p5⟩ := hw'
      go_simp
    go_simp
    refine hK _ ?_
    clear hK K
    refine mix_free (fun K hK => ?_)
    go_simp
    refine hK _ ?_
    clear hK K
    refine mix_free (fun K hK => ?_)
    go_simp
    refine hK _ ?_
    clear hK K
    refine mix_free (fun K hK => ?_)
    go_simp
    refine hK _ ?_
    clear hK K
    refine mix_val (.int .i64 nn) (by rfl) (fun w' hw' => ?_) (fun K hK => ?_)
    · obtain ⟨p0, p1, p2, p3, p4, p5⟩ := hw'
      go_simp
    go_simp
    refine hK _ ?_
    clear hK K
    refine mix_val (.agg #[.int .i64 s, .int .i64 o, .slice ad n cap, .int .i64 g]) (by rfl) (fun w' hw' => ?_) (fun K hK => ?_)
    · obtain ⟨p0, p1, p2, p3, p4, p5⟩ := hw'
      go_simp
    go_simp
    refine hK _ ?_
    clear hK K
    refine mix_free (fun K hK => ?_)
    go_simp
    refine hK _ ?_
    clear hK K
    refine mix_val (.slice ax xs.length cx) (by rfl) (fun w' hw' => ?_) (fun K hK => ?_)
    · obtain ⟨p0, p1, p2, p3, p4, p5⟩ := hw'
      go_simp
    go_simp
    refine hK _ ?_
    clear hK K
    refine mix_free (fun K hK => ?_)
    go_simp
    refine hK _ ?_
    clear hK K
    refine mix_val (.int .i64 nn) (by rfl) (fun w' hw' => ?_) (fun K hK => ?_)
    · obtain ⟨p0, p1, p2, p3, p4, p5⟩ := hw'
      go_simp
    go_simp
    refine hK _ ?_
    clear hK K
    refine mix_step (fun K hK => ?_) (keep1 ⟨D.rb.c0, D.rb.c1, D.rb.c2, D.rb.c3, D.act.c2, D.act.c3⟩)
    go_wp2_with fail
    refine (find_out b av xs.length cv nn _ hB (by rw [hln]; exact HOUT.out)).mono ?_
    rintro e wa ⟨rfl, gn⟩
    replace D := D.grown gn (.inl rfl)
    replace hB := hB.grown gn (by simp)
    replace os := os.kept gn (Classical.em _)
    clear gn
    go_wp2_with fail
    refine hK _ _ (keep1 ⟨D.rb.c0, D.rb.c1, D.rb.c2, D.rb.c3, D.act.c2, D.act.c3⟩) ?_
    clear hK K
    refine mix_step (fun K hK => ?_) (keep1 ⟨D.rb.c0, D.rb.c1, D.rb.c2, D.rb.c3, D.act.c2, D.act.c3⟩)
    go_wp2_with fail
    refine (find_ref_out s o nn b ad n cap g all ax xs.length cx _ D.ref HOUT.out).mono ?_
    rintro e wlast ⟨rfl, gn⟩
    replace D := D.grown gn (.inl rfl)
    replace hB := hB.grown gn (by simp)
    replace os := os.kept gn (Classical.em _)
    clear gn
    go_wp2_with fail
    refine hK _ _ (keep1 ⟨D.rb.c0, D.rb.c1, D.rb.c2, D.rb.c3, D.act.c2, D.act.c3⟩) ?_
    clear hK K
    refine mix_free (fun K hK => ?_)
    go_simp
    refine hK _ ?_
    clear hK K
    refine mix_free (fun K hK => ?_)
    go_simp
    refine hK _ ?_
    clear hK K
    refine mix_free (fun K hK => ?_)
    go_simp
    refine hK _ ?_
    clear hK K
    refine mix_free (fun K hK => ?_)
    go_simp
    refine hK _ ?_
    clear hK K
    refine mix_val (.slice ax xs.length cx) (by rfl) (fun w' hw' => ?_) (fun K hK => ?_)
    · obtain ⟨p0, p1, p2, p3, p4, p5⟩ := hw'
      go_simp
    go_simp
    refine hK _ ?_
    clear hK K
    refine mix_step (fun K hK => ?_) (keep1 ⟨D.rb.c0, D.rb.c1, D.rb.c2, D.rb.c3, D.act.c2, D.act.c3⟩)
    go_wp2_with fail
    refine (equal_any xs xs _ _ _ _ _ _ _ rfl rfl (slc_of_owns os).1 D.row).mono ?_
    rintro e _ ⟨rfl, rfl⟩
    rw [show (xs == xs) = true by simp]
    go_wp2_with fail
    refine hK _ _ (keep1 ⟨D.rb.c0, D.rb.c1, D.rb.c2, D.rb.c3, D.act.c2, D.act.c3⟩) ?_
    clear hK K
    refine mix_free (fun K hK => ?_)
    go_simp
    refine hK _ ?_
    clear hK K
    have D0 := D
    have d0 := D.res.c0
    have d1 := D.res.c1
    have d2 := D.res.c2
    have d3 := D.res.c3
    have z0 := D.res.free 0
    have z1 := D.res.free 1
    have z2 := D.res.free 2
    have z3 := D.res.free 3
    refine mix_step (fun K hK => ?_) (keep1 ⟨D.rb.c0, D.rb.c1, D.rb.c2, D.rb.c3, D.act.c2, D.act.c3⟩)
    go_wp2_with fail
    have kF := grown_trans (grown_trans (grown_trans (grown_setCell wlast (x + 2) 0 (.int .i64 s)) (grown_setCell _ (x + 2) 1 (.int .i64 o))) (grown_setCell _ (x + 2) 2 (.slice ad n cap))) (grown_setCell _ (x + 2) 3 (.int .i64 g))
    have F := D.rb.grown kF (by simp)
    have A := D.act.grown kF (by simp)
    refine hK _ _ (keep1 ⟨F.c0, F.c1, F.c2, F.c3, A.c2, A.c3⟩) ?_
    clear hK K
    refine mix_free (fun K hK => ?_)
    go_simp
    refine hK _ ?_
    clear hK K
    refine mix_nil ?_
    go_wp2_with fail
    obtain ⟨P, gF, fB, fR⟩ := D.fin s o ad n cap (g) _ rfl
    have e0 := P.c0
    have e1 := P.c1
    have e2 := P.c2
    have e3 := P.c3
    refine bodyPost_ret (v := .tuple #[.agg #[.int .i64 s, .int .i64 o, .slice ad n cap, .int .i64 (g)], .bool true]) (by simp [results, Try.results35, go_sem, e0, e1, e2, e3]) rfl ⟨ad, n, cap, g, all, rfl, fB _ _ _ hB, fR _ _ _ _ _ D.ref D.far, by omega, gF, .inl rfl⟩
  · obtain ⟨i, rfl⟩ : ∃ i : Nat, nn = i := ⟨nn.toNat, by omega⟩
    have hin : i ≤ n - g := by omega
    clear hout
    have c0 := D.rb.c0
    have c1 := D.rb.c1
    have c2 := D.rb.c2
    have c3 := D.rb.c3
    have a0 := D.act.c0
    have a1 := D.act.c1
    have a2 := D.act.c2
    have a3 := D.act.c3
    go_wp2_with fail
    refine (clone_any xs ax xs.length cx _ rfl (by omega) D.row).mono ?_
    rintro e w3 ⟨v3, rfl, os, bl⟩
    obtain ⟨av, cv, rfl, hcv⟩ := own_slice os
    have gn := grown_of_below none bl
    replace D := D.grown gn (.inl rfl)
    replace hB := hB.grown gn (by simp)
    clear gn bl
    clear c0 c1 c2 c3 a0 a1 a2 a3
    go_upto_region 26 with fail
    refine region_mix [(0, .inl (some 0)), (1, .inl none), (2, .inl none), (3, .inl none), (4, .inl (some 0)), (6, .inl (some 0)), (7, .inl none), (8, .inl (some 0)), (9, .inl none), (10, .inl (some 0)), (5, .inr [0]), (11, .inr [0]), (12, .inl none), (13, .inl none), (14, .inl none), (15, .inl none), (16, .inl (some 0)), (17, .inr [0]), (18, .inl none), (19, .inr [0]), (20, .inl none)]
      (fun _ W => W.cell? ⟨x, 0, none⟩ = some (.int .i64 s) ∧ W.cell? ⟨x, 1, none⟩ = some (.int .i64 o) ∧ W.cell? ⟨x, 2, none⟩ = some (.slice ad n cap) ∧ W.cell? ⟨x, 3, none⟩ = some (.int .i64 g) ∧ W.cell? ⟨x + 1, 2, none⟩ = some (.int .i64 i) ∧ W.cell? ⟨x + 1, 3, none⟩ = some (.slice ax xs.length cx)) (by kernel_rfl) (by kernel_rfl) (fun _ => ⟨D.rb.c0, D.rb.c1, D.rb.c2, D.rb.c3, D.act.c2, D.act.c3⟩) ?_
    simp only [pickK, List.filterMap_cons, List.filterMap_nil, List.getElem?_toArray, List.getElem?_cons_zero, List.getElem?_cons_succ, Option.map_some]
    have gn := grown_drewN w3 1 none
    replace D := D.grown gn (.inl rfl)
    replace hB := hB.grown gn (by simp)
    replace os := os.kept gn (Classical.em _)
    clear gn
    generalize w3.drewN 1 = w4 at D hB os ⊢
    refine mix_val (.agg #[.int .i64 s, .int .i64 o, .slice ad n cap, .int .i64 g]) (by rfl) (fun w' hw' => ?_) (fun K hK => ?_)
    · obtain ⟨p0, p1, p2, p3, p4, p5⟩ := hw'
      go_simp
    go_simp
    refine hK _ ?_
    clear hK K
    refine mix_free (fun K hK => ?_)
    go_simp
    refine hK _ ?_
    clear hK K
    refine mix_free (fun K hK => ?_)
    go_simp
    refine hK _ ?_
    clear hK K
    refine mix_free (fun K hK => ?_)
    go_simp
    refine hK _ ?_
    clear hK K
    refine mix_val (.int .i64 i) (by rfl) (fun w' hw' => ?_) (fun K hK => ?_)
    · obtain ⟨p0, p1, p2, p3, p4, p5⟩ := hw'
      go_simp
    go_simp
    refine hK _ ?_
    clear hK K
    refine mix_val (.agg #[.int .i64 s, .int .i64 o, .slice ad n cap, .int .i64 g]) (by rfl) (fun w' hw' => ?_) (fun K hK => ?_)
    · obtain ⟨p0, p1, p2, p3, p4, p5⟩ := hw'
      go_simp
    go_simp
    refine hK _ ?_
    clear hK K
    refine mix_free (fun K hK => ?_)
    go_simp
    refine hK _ ?_
    clear hK K
    refine mix_val (.slice ax xs.length cx) (by rfl) (fun w' hw' => ?_) (fun K hK => ?_)
    · obtain ⟨p0, p1, p2, p3, p4, p5⟩ := hw'
      go_simp
    go_simp
    refine hK _ ?_
    clear hK K
    refine mix_free (fun K hK => ?_)
    go_simp
    refine hK _ ?_
    clear hK K
    refine mix_val (.int .i64 i) (by rfl) (fun w' hw' => ?_) (fun K hK => ?_)
    · obtain ⟨p0, p1, p2, p3, p4, p5⟩ := hw'
      go_simp
    go_simp
    refine hK _ ?_
    clear hK K
    refine mix_step (fun K hK => ?_) (keep1 ⟨D.rb.c0, D.rb.c1, D.rb.c2, D.rb.c3, D.act.c2, D.act.c3⟩)
    go_wp2_with fail
    refine (find_any b av cv xs i _ hB (slc_of_owns os).1 (by omega) (by rw [hln]; exact hin)).mono ?_
    rintro e wa ⟨rfl, gn⟩
    replace D := D.grown gn (.inl rfl)
    replace hB := hB.grown gn (by simp)
    replace os := os.kept gn (Classical.em _)
    clear gn
    go_wp2_with fail
    refine hK _ _ (keep1 ⟨D.rb.c0, D.rb.c1, D.rb.c2, D.rb.c3, D.act.c2, D.act.c3⟩) ?_
    clear hK K
    refine mix_step (fun K hK => ?_) (keep1 ⟨D.rb.c0, D.rb.c1, D.rb.c2, D.rb.c3, D.act.c2, D.act.c3⟩)
    go_wp2_with fail
    refine (find_ref s o i b ad n cap g all xs ax xs.length cx _ D.ref D.row rfl hmc hmb (by omega) hin).mono ?_
    rintro e wlast ⟨rfl, gn⟩
    replace D := D.grown gn (.inl rfl)
    replace hB := hB.grown gn (by simp)
    replace os := os.kept gn (Classical.em _)
    clear gn
    go_wp2_with fail
    refine hK _ _ (keep1 ⟨D.rb.c0, D.rb.c1, D.rb.c2, D.rb.c3, D.act.c2, D.act.c3⟩) ?_
    clear hK K
    refine mix_free (fun K hK => ?_)
    go_simp
    refine hK _ ?_
    clear hK K
    refine mix_free (fun K hK => ?_)
    go_simp
    refine hK _ ?_
    clear hK K
    refine mix_free (fun K hK => ?_)
    go_simp
    refine hK _ ?_
    clear hK K
    refine mix_free (fun K hK => ?_)
    go_simp
    refine hK _ ?_
    clear hK K
    refine mix_val (.slice ax xs.length cx) (by rfl) (fun w' hw' => ?_) (fun K hK => ?_)
    · obtain ⟨p0, p1, p2, p3, p4, p5⟩ := hw'
      go_simp
    go_simp
    refine hK _ ?_
    clear hK K
    refine mix_step (fun K hK => ?_) (keep1 ⟨D.rb.c0, D.rb.c1, D.rb.c2, D.rb.c3, D.act.c2, D.act.c3⟩)
    go_wp2_with fail
    refine (equal_any xs xs _ _ _ _ _ _ _ rfl rfl (slc_of_owns os).1 D.row).mono ?_
    rintro e _ ⟨rfl, rfl⟩
    rw [show (xs == xs) = true by simp]
    go_wp2_with fail
    refine hK _ _ (keep1 ⟨D.rb.c0, D.rb.c1, D.rb.c2, D.rb.c3, D.act.c2, D.act.c3⟩) ?_
    clear hK K
    refine mix_free (fun K hK => ?_)
    go_simp
    refine hK _ ?_
    clear hK K
    have D0 := D
    have d0 := D.res.c0
    have d1 := D.res.c1
    have d2 := D.res.c2
    have d3 := D.res.c3
    have z0 := D.res.free 0
    have z1 := D.res.free 1
    have z2 := D.res.free 2
    have z3 := D.res.free 3
    refine mix_step (fun K hK => ?_) (keep1 ⟨D.rb.c0, D.rb.c1, D.rb.c2, D.rb.c3, D.act.c2, D.act.c3⟩)
    go_wp2_with fail
    have kF := grown_trans (grown_trans (grown_trans (grown_setCell wlast (x + 2) 0 (.int .i64 s)) (grown_setCell _ (x + 2) 1 (.int .i64 o))) (grown_setCell _ (x + 2) 2 (.slice ad n cap))) (grown_setCell _ (x + 2) 3 (.int .i64 g))
    have F := D.rb.grown kF (by simp)
    have A := D.act.grown kF (by simp)
    refine hK _ _ (keep1 ⟨F.c0, F.c1, F.c2, F.c3, A.c2, A.c3⟩) ?_
    clear hK K
    refine mix_free (fun K hK => ?_)
    go_simp
    refine hK _ ?_
    clear hK K
    refine mix_nil ?_
    go_wp2_with fail
    obtain ⟨P, gF, fB, fR⟩ := D.fin s o ad n cap (g) _ rfl
    have e0 := P.c0
    have e1 := P.c1
    have e2 := P.c2
    have e3 := P.c3
    refine bodyPost_ret (v := .tuple #[.agg #[.int .i64 s, .int .i64 o, .slice ad n cap, .int .i64 (g)], .bool true]) (by simp [results, Try.results35, go_sem, e0, e1, e2, e3]) rfl ⟨ad, n, cap, g, all, rfl, fB _ _ _ hB, fR _ _ _ _ _ D.ref D.far, by omega, gF, .inl rfl⟩
end Go.Proofs.Ytadoobkieehajaa
