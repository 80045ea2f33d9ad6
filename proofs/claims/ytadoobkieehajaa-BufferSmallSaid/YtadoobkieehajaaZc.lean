/- One act: Discard, Copy. -/
import Derived.Test.YtadoobkieehajaaZ
import Derived.Deep.DeepCutAuto
namespace Go.Proofs.Ytadoobkieehajaa
open Go.RowKit Go.Shelf

set_option maxRecDepth 100000 in
set_option maxHeartbeats 4000000 in
theorem do_copy (b s o g n cap : Nat) (ad : Option Addr) (all : List UInt8) (kind c : UInt8) (nn : Int) (ax : Option Addr) (m cx : Nat) (xs : List UInt8) (w : World) (hB : IsBuf w b s (o + g) (all.drop g)) (hR : RefS w b ad n cap g all) (hn : n ≤ 90000) (ho1 : (o : Int) ≤ 281474976710656)
    (hx : Slc w ax xs) (hxb : xs = [] ∨ ∀ y, ax = some y → y.block ≠ b) (hm : xs.length = m) (hmc : m ≤ cx) (hmb : m ≤ 100000) (hk : (kind.toNat : Int) % 8 = 7) :
    Calls Try.prog 35 #[.pointer (some ⟨b, 0, none⟩), .agg #[.int .i64 s, .int .i64 o, .slice ad n cap, .int .i64 g], .agg #[.int .u8 kind.toNat, .int .u8 c.toNat, .int .i64 nn, .slice ax m cx]] w fun e w' => ∃ (ad' : Option Addr) (n' cap' g' : Nat) (all' : List UInt8), e = .returned (.tuple #[.agg #[.int .i64 s, .int .i64 o, .slice ad' n' cap', .int .i64 g'], .bool true]) ∧ IsBuf w' b s (o + g') (all'.drop g') ∧ RefS w' b ad' n' cap' g' all' ∧ n' ≤ n + 1 ∧ w.grownBy w' (some b) ∧ (ad' = ad ∨ ∀ y, ad' = some y → w.heap.size ≤ y.block) := by
  have D := DoS.start w b s o g n cap ad all kind c nn ax m cx xs hB.lt hR hx hxb
  have hln := hR.held_len
  have hle := hR.le
  have hgb : g ≤ 100000 := by omega
  have ho0 : (0 : Int) ≤ o := by omega
  have hog : ((o + g : Nat) : Int) = o + g := by omega
  have hfit := hB.fits
  have hs2 := hB.hi
  have hs1 := hB.lo
  rw [hln] at hfit
  have gn := grown_trans (grown_trans (World.grownBy_alloc w (.cells #[.int .i64 s, .int .i64 o, .slice ad n cap, .int .i64 g] 72) none) (World.grownBy_alloc _ (.cells #[.int .u8 kind.toNat, .int .u8 c.toNat, .int .i64 nn, .slice ax m cx] 57) none)) (World.grownBy_alloc _ (.cells #[.int .i64 0, .int .i64 0, .slice none 0 0, .int .i64 0] 72) none)
  replace hB := hB.grown gn (by simp)
  clear gn hR hx
  go_enter Try.func35, Try.ntmps35
  go_wp2_with fail
  generalize ((w.alloc (.cells #[.int .i64 s, .int .i64 o, .slice ad n cap, .int .i64 g] 72)).alloc (.cells #[.int .u8 kind.toNat, .int .u8 c.toNat, .int .i64 nn, .slice ax m cx] 57)).alloc (.cells #[.int .i64 0, .int .i64 0, .slice none 0 0, .int .i64 0] 72) = w1 at D hB ⊢
  have HX := Lib.hid D.sz
  generalize w.heap.size = x at D ⊢
  rw [show x + 1 + 1 = x + 2 from rfl]
  refine (from_any s o ad n cap g w1 ⟨ho0, ho1⟩ hgb).mono ?_
  rintro e w2 ⟨rfl, gn⟩
  replace hB := hB.grown gn (by simp)
  replace D := D.grown gn (.inl rfl)
  clear gn
  have c0 := D.rb.c0
  have c1 := D.rb.c1
  have c2 := D.rb.c2
  have c3 := D.rb.c3
  have a0 := D.act.c0
  have a1 := D.act.c1
  have a2 := D.act.c2
  have a3 := D.act.c3
  have d0 := D.res.c0
  have d1 := D.res.c1
  have d2 := D.res.c2
  have d3 := D.res.c3
  have z0 := D.res.free 0
  have z1 := D.res.free 1
  have z2 := D.res.free 2
  have z3 := D.res.free 3
  go_wp2_with fail
  obtain ⟨P, gF, fB, fR⟩ := D.fin s o ad n cap (g) _ rfl
  have e0 := P.c0
  have e1 := P.c1
  have e2 := P.c2
  have e3 := P.c3
  refine bodyPost_ret (v := .tuple #[.agg #[.int .i64 s, .int .i64 o, .slice ad n cap, .int .i64 (g)], .bool true]) (by simp [results, Try.results35, go_sem, e0, e1, e2, e3]) rfl ⟨ad, n, cap, g, all, rfl, fB _ _ _ hB, fR _ _ _ _ _ D.ref D.far, by omega, gF, .inl rfl⟩

set_option maxRecDepth 100000 in
set_option maxHeartbeats 4000000 in
theorem do_discard (b s o g n cap : Nat) (ad : Option Addr) (all : List UInt8) (kind c : UInt8) (nn : Int) (ax : Option Addr) (m cx : Nat) (xs : List UInt8) (w : World) (hB : IsBuf w b s (o + g) (all.drop g)) (hR : RefS w b ad n cap g all) (hn : n ≤ 90000) (ho1 : (o : Int) ≤ 281474976710656)
    (hx : Slc w ax xs) (hxb : xs = [] ∨ ∀ y, ax = some y → y.block ≠ b) (hm : xs.length = m) (hmc : m ≤ cx) (hmb : m ≤ 100000) (hk : (kind.toNat : Int) % 8 = 5) :
    Calls Try.prog 35 #[.pointer (some ⟨b, 0, none⟩), .agg #[.int .i64 s, .int .i64 o, .slice ad n cap, .int .i64 g], .agg #[.int .u8 kind.toNat, .int .u8 c.toNat, .int .i64 nn, .slice ax m cx]] w fun e w' => ∃ (ad' : Option Addr) (n' cap' g' : Nat) (all' : List UInt8), e = .returned (.tuple #[.agg #[.int .i64 s, .int .i64 o, .slice ad' n' cap', .int .i64 g'], .bool true]) ∧ IsBuf w' b s (o + g') (all'.drop g') ∧ RefS w' b ad' n' cap' g' all' ∧ n' ≤ n + 1 ∧ w.grownBy w' (some b) ∧ (ad' = ad ∨ ∀ y, ad' = some y → w.heap.size ≤ y.block) := by
  have D := DoS.start w b s o g n cap ad all kind c nn ax m cx xs hB.lt hR hx hxb
  have hln := hR.held_len
  have hle := hR.le
  have hgb : g ≤ 100000 := by omega
  have ho0 : (0 : Int) ≤ o := by omega
  have hog : ((o + g : Nat) : Int) = o + g := by omega
  have hfit := hB.fits
  have hs2 := hB.hi
  have hs1 := hB.lo
  rw [hln] at hfit
  have gn := grown_trans (grown_trans (World.grownBy_alloc w (.cells #[.int .i64 s, .int .i64 o, .slice ad n cap, .int .i64 g] 72) none) (World.grownBy_alloc _ (.cells #[.int .u8 kind.toNat, .int .u8 c.toNat, .int .i64 nn, .slice ax m cx] 57) none)) (World.grownBy_alloc _ (.cells #[.int .i64 0, .int .i64 0, .slice none 0 0, .int .i64 0] 72) none)
  replace hB := hB.grown gn (by simp)
  clear gn hR hx
  go_enter Try.func35, Try.ntmps35
  go_wp2_with fail
  generalize ((w.alloc (.cells #[.int .i64 s, .int .i64 o, .slice ad n cap, .int .i64 g] 72)).alloc (.cells #[.int .u8 kind.toNat, .int .u8 c.toNat, .int .i64 nn, .slice ax m cx] 57)).alloc (.cells #[.int .i64 0, .int .i64 0, .slice none 0 0, .int .i64 0] 72) = w1 at D hB ⊢
  have HX := Lib.hid D.sz
  generalize w.heap.size = x at D ⊢
  rw [show x + 1 + 1 = x + 2 from rfl]
  refine (from_any s o ad n cap g w1 ⟨ho0, ho1⟩ hgb).mono ?_
  rintro e w2 ⟨rfl, gn⟩
  replace hB := hB.grown gn (by simp)
  replace D := D.grown gn (.inl rfl)
  clear gn
  have c0 := D.rb.c0
  have c1 := D.rb.c1
  have c2 := D.rb.c2
  have c3 := D.rb.c3
  have a0 := D.act.c0
  have a1 := D.act.c1
  have a2 := D.act.c2
  have a3 := D.act.c3
  by_cases hf : n - g = s
  · obtain ⟨h, hh⟩ : ∃ h, h = (s + 1) / 2 := ⟨_, rfl⟩
    have hhb : h ≤ n - g ∧ (h : Int) ≤ 128 := by omega
    have HH := Lib.hid hh
    clear hh
    go_wp2_with fail
    have E := discard_full _ _ hB (hln.trans hf)
    rw [← HH.out, hog] at E
    refine E.mono ?_
    clear E
    rintro e w3 ⟨rfl, hB3, g3⟩
    replace D := D.grown g3 (.inr rfl)
    clear g3 hB
    clear c0 c1 c2 c3 a0 a1 a2 a3
    go_upto_region 22 with fail
    have D3 := D
    replace D := D.grown (World.grownBy_alloc w3 (.cells #[.int .i64 (o + g), .int .i64 (o + g + (h : Nat))] 31) none) (.inl rfl)
    replace hB3 := hB3.grown (World.grownBy_alloc w3 (.cells #[.int .i64 (o + g), .int .i64 (o + g + (h : Nat))] 31) none) (by simp)
    have T : Two (w3.alloc (.cells #[.int .i64 (o + g), .int .i64 (o + g + (h : Nat))] 31)) w3.heap.size (o + g) (o + g + (h : Nat)) := ⟨by rw [World.alloc_heap_new]⟩
    generalize w3.alloc (.cells #[.int .i64 (o + g), .int .i64 (o + g + (h : Nat))] 31) = w4 at D hB3 T ⊢
    have hy20 : x + 2 < w3.heap.size := D3.res.lt
    generalize w3.heap.size = y20 at T hy20 ⊢
    have c0 := D.rb.c0
    have c1 := D.rb.c1
    have c2 := D.rb.c2
    have c3 := D.rb.c3
    have a0 := D.act.c0
    have a1 := D.act.c1
    have a2 := D.act.c2
    have a3 := D.act.c3
    go_wp2_with fail
    have E := discard_ref_full s o b ad n cap g all _ D.ref hf hs2 (by omega)
    rw [← HH.out] at E
    refine E.mono ?_
    clear E
    rintro e w5 ⟨rfl, gn⟩
    replace D := D.grown gn (.inl rfl)
    replace hB3 := hB3.grown gn (by simp)
    replace T := T.grown gn (by simp)
    clear gn
    clear c0 c1 c2 c3 a0 a1 a2 a3
    go_upto_region 23 with fail
    have D5 := D
    replace D := D.grown (World.grownBy_alloc w5 (.cells #[.int .i64 s, .int .i64 o, .slice ad n cap, .int .i64 (g + (h : Nat))] 72) none) (.inl rfl)
    replace hB3 := hB3.grown (World.grownBy_alloc w5 (.cells #[.int .i64 s, .int .i64 o, .slice ad n cap, .int .i64 (g + (h : Nat))] 72) none) (by simp)
    replace T := T.grown (World.grownBy_alloc w5 (.cells #[.int .i64 s, .int .i64 o, .slice ad n cap, .int .i64 (g + (h : Nat))] 72) none) (by simp)
    have F22 : Four (w5.alloc (.cells #[.int .i64 s, .int .i64 o, .slice ad n cap, .int .i64 (g + (h : Nat))] 72)) w5.heap.size s o ad n cap (g + (h : Nat)) := ⟨World.alloc_heap_new _ _⟩
    generalize w5.alloc (.cells #[.int .i64 s, .int .i64 o, .slice ad n cap, .int .i64 (g + (h : Nat))] 72) = w6 at D hB3 T F22 ⊢
    have hy22 : x + 2 < w5.heap.size := D5.res.lt
    generalize w5.heap.size = y22 at F22 hy22 ⊢
    clear D3 D5
    refine region_mix [(0, .inl (some 0)), (1, .inl none), (2, .inl none), (3, .inl none), (4, .inl none), (5, .inl none), (6, .inl none), (7, .inl none), (8, .inl (some 0)), (9, .inl none), (10, .inl none), (11, .inl none), (12, .inl none), (13, .inl none), (14, .inl none), (15, .inl none), (16, .inl none), (17, .inl none), (18, .inl none), (19, .inl none), (20, .inl (some 0)), (21, .inl none), (22, .inl none), (23, .inl none), (24, .inl none), (25, .inl none), (26, .inr [0]), (27, .inl none)]
      (fun _ W => W.cell? ⟨y22, 0, none⟩ = some (.int .i64 s) ∧ W.cell? ⟨y22, 1, none⟩ = some (.int .i64 o) ∧ W.cell? ⟨y22, 2, none⟩ = some (.slice ad n cap) ∧ W.cell? ⟨y22, 3, none⟩ = some (.int .i64 (g + (h : Nat))) ∧ W.cell? ⟨y20, 0, none⟩ = some (.int .i64 (o + g)) ∧ W.cell? ⟨y20, 1, none⟩ = some (.int .i64 (o + g + (h : Nat)))) (by kernel_rfl) (by kernel_rfl) (fun _ => ⟨F22.c0, F22.c1, F22.c2, F22.c3, T.c0, T.c1⟩) ?_
    simp only [pickK, List.filterMap_cons, List.filterMap_nil, List.getElem?_toArray, List.getElem?_cons_zero, List.getElem?_cons_succ, Option.map_some]
    have gn := grown_drewN w6 1 none
    replace D := D.grown gn (.inl rfl)
    replace hB3 := hB3.grown gn (by simp)
    replace F22 := F22.grown gn (by simp)
    replace T := T.grown gn (by simp)
    clear gn
    generalize w6.drewN 1 = w7 at D hB3 F22 T ⊢
    have d0 := D.res.c0
    have d1 := D.res.c1
    have d2 := D.res.c2
    have d3 := D.res.c3
    have z0 := D.res.free 0
    have z1 := D.res.free 1
    have z2 := D.res.free 2
    have z3 := D.res.free 3
    have kw : IntKind.i64.wrap ((o : Int) + g + h) = o + g + h := IntWalk.i64_in _ (by omega)
    refine mix_val (.agg #[.int .i64 s, .int .i64 o, .slice ad n cap, .int .i64 (g + (h : Nat))]) (by rfl) (fun w' hw' => ?_) (fun K hK => ?_)
    · obtain ⟨p0, p1, p2, p3, p4, p5⟩ := hw'
      go_simp
    go_simp
    refine hK _ ?_
    clear hK K
    refine mix_free (fun K hK => ?_)
    go_simp
    refine hK _ ?_
    clear hK K
    refine mix_free (fun K hK => ?_)
    go_simp
    refine hK _ ?_
    clear hK K
    refine mix_free (fun K hK => ?_)
    go_simp
    refine hK _ ?_
    clear hK K
    refine mix_free (fun K hK => ?_)
    go_simp
    refine hK _ ?_
    clear hK K
    refine mix_free (fun K hK => ?_)
    go_simp
    refine hK _ ?_
    clear hK K
    refine mix_free (fun K hK => ?_)
    go_simp
    refine hK _ ?_
    clear hK K
    refine mix_free (fun K hK => ?_)
    go_simp
    refine hK _ ?_
    clear hK K
    refine mix_val (.agg #[.int .i64 (o + g), .int .i64 (o + g + (h : Nat))]) (by rfl) (fun w' hw' => ?_) (fun K hK => ?_)
    · obtain ⟨p0, p1, p2, p3, p4, p5⟩ := hw'
      go_simp
    go_simp
    refine hK _ ?_
    clear hK K
    refine mix_free (fun K hK => ?_)
    go_simp
    refine hK _ ?_
    clear hK K
    refine mix_free (fun K hK => ?_)
    go_simp
    refine hK _ ?_
    clear hK K
    refine mix_free (fun K hK => ?_)
    go_simp
    refine hK _ ?_
    clear hK K
    refine mix_free (fun K hK => ?_)
    go_simp
    refine hK _ ?_
    clear hK K
    refine mix_free (fun K hK => ?_)
    go_simp
    refine hK _ ?_
    clear hK K
    refine mix_free (fun K hK => ?_)
    go_simp
    refine hK _ ?_
    clear hK K
    refine mix_free (fun K hK => ?_)
    go_simp
    refine hK _ ?_
    clear hK K
    refine mix_free (fun K hK => ?_)
    go_simp
    refine hK _ ?_
    clear hK K
    rw [wpMix]
    rw [if_neg (by first | (go_simp; done) | (go_simp; intro hh; cases hh; done) | (go_simp; simp [undef]; done))]
    simp only [Act.put, List.setIfInBounds_toArray, List.set_cons_succ, List.set_cons_zero]
    rw [wpMix]
    rw [if_neg (by first | (go_simp; done) | (go_simp; intro hh; cases hh; done) | (go_simp; simp [undef]; done))]
    simp only [Act.put, List.setIfInBounds_toArray, List.set_cons_succ, List.set_cons_zero]
    rw [wpMix]
    rw [if_neg (by first | (go_simp; done) | (go_simp; intro hh; cases hh; done) | (go_simp; simp [undef]; done))]
    simp only [Act.put, List.setIfInBounds_toArray, List.set_cons_succ, List.set_cons_zero]
    rw [wpMix]
    rw [if_neg (by first | (go_simp; done) | (go_simp; intro hh; cases hh; done) | (go_simp; simp [undef]; done))]
    simp only [Act.put, List.setIfInBounds_toArray, List.set_cons_succ, List.set_cons_zero]
    rw [wpMix]
    rw [if_neg (by first | (go_simp; done) | (go_simp; intro hh; cases hh; done) | (go_simp; simp [undef]; done))]
    simp only [Act.put, List.setIfInBounds_toArray, List.set_cons_succ, List.set_cons_zero]
    rw [wpMix]
    rw [if_neg (by first | (go_simp; done) | (go_simp; intro hh; cases hh; done) | (go_simp; simp [undef]; done))]
    simp only [Act.put, List.setIfInBounds_toArray, List.set_cons_succ, List.set_cons_zero]
    rw [wpMix]
    rw [if_neg (by first | (go_simp; done) | (go_simp; intro hh; cases hh; done) | (go_simp; simp [undef]; done))]
    simp only [Act.put, List.setIfInBounds_toArray, List.set_cons_succ, List.set_cons_zero]
    refine mix_free (fun K hK => ?_)
    go_simp
    refine hK _ ?_
    clear hK K
    refine mix_free (fun K hK => ?_)
    go_simp
    refine hK _ ?_
    clear hK K
    refine mix_step (fun K hK => ?_) (keep1 ⟨F22.c0, F22.c1, F22.c2, F22.c3, T.c0, T.c1⟩)
    go_wp2_with fail
    have kF := grown_trans (grown_trans (grown_trans (grown_setCell w7 (x + 2) 0 (.int .i64 s)) (grown_setCell _ (x + 2) 1 (.int .i64 o))) (grown_setCell _ (x + 2) 2 (.slice ad n cap))) (grown_setCell _ (x + 2) 3 (.int .i64 (g + (h : Nat))))
    replace F22 := F22.grown kF (by simp; omega)
    replace T := T.grown kF (by simp; omega)
    refine hK _ _ (keep1 ⟨F22.c0, F22.c1, F22.c2, F22.c3, T.c0, T.c1⟩) ?_
    clear hK K
    refine mix_free (fun K hK => ?_)
    go_simp
    refine hK _ ?_
    clear hK K
    refine mix_nil ?_
    clear kw
    go_wp2_with fail
    rw [Nat.add_assoc, List.drop_drop] at hB3
    obtain ⟨P, gF, fB, fR⟩ := D.fin s o ad n cap (g + (h )) _ rfl
    have e0 := P.c0
    have e1 := P.c1
    have e2 := P.c2
    have e3 := P.c3
    refine bodyPost_ret (v := .tuple #[.agg #[.int .i64 s, .int .i64 o, .slice ad n cap, .int .i64 (g + (h : Nat))], .bool true]) (by simp [results, Try.results35, go_sem, e0, e1, e2, e3]) rfl ⟨ad, n, cap, g + (h ), all, rfl, fB _ _ _ hB3, fR _ _ _ _ _ (D.ref.gone (by omega)) (D.far.gone (by omega)), by omega, gF, .inl rfl⟩
  · go_wp2_with fail
    refine (discard_room _ _ hB (by rw [hln]; omega)).mono ?_
    rintro e w3 ⟨rfl, g3⟩
    have hB3 := hB.grown g3 (by simp)
    replace D := D.grown g3 (.inl rfl)
    clear g3 hB
    clear c0 c1 c2 c3 a0 a1 a2 a3
    go_upto_region 22 with fail
    have D3 := D
    replace D := D.grown (World.grownBy_alloc w3 (.cells #[.int .i64 0, .int .i64 0] 31) none) (.inl rfl)
    replace hB3 := hB3.grown (World.grownBy_alloc w3 (.cells #[.int .i64 0, .int .i64 0] 31) none) (by simp)
    have T : Two (w3.alloc (.cells #[.int .i64 0, .int .i64 0] 31)) w3.heap.size 0 0 := ⟨by rw [World.alloc_heap_new]⟩
    generalize w3.alloc (.cells #[.int .i64 0, .int .i64 0] 31) = w4 at D hB3 T ⊢
    have hy20 : x + 2 < w3.heap.size := D3.res.lt
    generalize w3.heap.size = y20 at T hy20 ⊢
    have c0 := D.rb.c0
    have c1 := D.rb.c1
    have c2 := D.rb.c2
    have c3 := D.rb.c3
    have a0 := D.act.c0
    have a1 := D.act.c1
    have a2 := D.act.c2
    have a3 := D.act.c3
    go_wp2_with fail
    refine (discard_ref s o b ad n cap g all _ D.ref (by omega)).mono ?_
    rintro e w5 ⟨rfl, gn⟩
    replace D := D.grown gn (.inl rfl)
    replace hB3 := hB3.grown gn (by simp)
    replace T := T.grown gn (by simp)
    clear gn
    clear c0 c1 c2 c3 a0 a1 a2 a3
    go_upto_region 23 with fail
    have D5 := D
    replace D := D.grown (World.grownBy_alloc w5 (.cells #[.int .i64 s, .int .i64 o, .slice ad n cap, .int .i64 g] 72) none) (.inl rfl)
    replace hB3 := hB3.grown (World.grownBy_alloc w5 (.cells #[.int .i64 s, .int .i64 o, .slice ad n cap, .int .i64 g] 72) none) (by simp)
    replace T := T.grown (World.grownBy_alloc w5 (.cells #[.int .i64 s, .int .i64 o, .slice ad n cap, .int .i64 g] 72) none) (by simp)
    have F22 : Four (w5.alloc (.cells #[.int .i64 s, .int .i64 o, .slice ad n cap, .int .i64 g] 72)) w5.heap.size s o ad n cap g := ⟨World.alloc_heap_new _ _⟩
    generalize w5.alloc (.cells #[.int .i64 s, .int .i64 o, .slice ad n cap, .int .i64 g] 72) = w6 at D hB3 T F22 ⊢
    have hy22 : x + 2 < w5.heap.size := D5.res.lt
    generalize w5.heap.size = y22 at F22 hy22 ⊢
    clear D3 D5
    refine region_mix [(0, .inl (some 0)), (1, .inl none), (2, .inl none), (3, .inl none), (4, .inl none), (5, .inl none), (6, .inl none), (7, .inl none), (8, .inl (some 0)), (9, .inl none), (10, .inl none), (11, .inl none), (12, .inl none), (13, .inl none), (14, .inl none), (15, .inl none), (16, .inl none), (17, .inl none), (18, .inl none), (19, .inl none), (20, .inl (some 0)), (21, .inl none), (22, .inl none), (23, .inl none), (24, .inl none), (25, .inl none), (26, .inr [0]), (27, .inl none)]
      (fun _ W => W.cell? ⟨y22, 0, none⟩ = some (.int .i64 s) ∧ W.cell? ⟨y22, 1, none⟩ = some (.int .i64 o) ∧ W.cell? ⟨y22, 2, none⟩ = some (.slice ad n cap) ∧ W.cell? ⟨y22, 3, none⟩ = some (.int .i64 g) ∧ W.cell? ⟨y20, 0, none⟩ = some (.int .i64 0) ∧ W.cell? ⟨y20, 1, none⟩ = some (.int .i64 0)) (by kernel_rfl) (by kernel_rfl) (fun _ => ⟨F22.c0, F22.c1, F22.c2, F22.c3, T.c0, T.c1⟩) ?_
    simp only [pickK, List.filterMap_cons, List.filterMap_nil, List.getElem?_toArray, List.getElem?_cons_zero, List.getElem?_cons_succ, Option.map_some]
    have gn := grown_drewN w6 1 none
    replace D := D.grown gn (.inl rfl)
    replace hB3 := hB3.grown gn (by simp)
    replace F22 := F22.grown gn (by simp)
    replace T := T.grown gn (by simp)
    clear gn
    generalize w6.drewN 1 = w7 at D hB3 F22 T ⊢
    have d0 := D.res.c0
    have d1 := D.res.c1
    have d2 := D.res.c2
    have d3 := D.res.c3
    have z0 := D.res.free 0
    have z1 := D.res.free 1
    have z2 := D.res.free 2
    have z3 := D.res.free 3
    refine mix_val (.agg #[.int .i64 s, .int .i64 o, .slice ad n cap, .int .i64 g]) (by rfl) (fun w' hw' => ?_) (fun K hK => ?_)
    · obtain ⟨p0, p1, p2, p3, p4, p5⟩ := hw'
      go_simp
    go_simp
    refine hK _ ?_
    clear hK K
    refine mix_free (fun K hK => ?_)
    go_simp
    refine hK _ ?_
    clear hK K
    refine mix_free (fun K hK => ?_)
    go_simp
    refine hK _ ?_
    clear hK K
    refine mix_free (fun K hK => ?_)
    go_simp
    refine hK _ ?_
    clear hK K
    refine mix_free (fun K hK => ?_)
    go_simp
    refine hK _ ?_
    clear hK K
    refine mix_free (fun K hK => ?_)
    go_simp
    refine hK _ ?_
    clear hK K
    refine mix_free (fun K hK => ?_)
    go_simp
    refine hK _ ?_
    clear hK K
    refine mix_free (fun K hK => ?_)
    go_simp
    refine hK _ ?_
    clear hK K
    rw [wpMix]
    rw [if_neg (by first | (go_simp; done) | (go_simp; intro hh; cases hh; done) | (go_simp; simp [undef]; done))]
    simp only [Act.put, List.setIfInBounds_toArray, List.set_cons_succ, List.set_cons_zero]
    rw [wpMix]
    rw [if_neg (by first | (go_simp; done) | (go_simp; intro hh; cases hh; done) | (go_simp; simp [undef]; done))]
    simp only [Act.put, List.setIfInBounds_toArray, List.set_cons_succ, List.set_cons_zero]
    rw [wpMix]
    rw [if_neg (by first | (go_simp; done) | (go_simp; intro hh; cases hh; done) | (go_simp; simp [undef]; done))]
    simp only [Act.put, List.setIfInBounds_toArray, List.set_cons_succ, List.set_cons_zero]
    rw [wpMix]
    rw [if_neg (by first | (go_simp; done) | (go_simp; intro hh; cases hh; done) | (go_simp; simp [undef]; done))]
    simp only [Act.put, List.setIfInBounds_toArray, List.set_cons_succ, List.set_cons_zero]
    rw [wpMix]
    rw [if_neg (by first | (go_simp; done) | (go_simp; intro hh; cases hh; done) | (go_simp; simp [undef]; done))]
    simp only [Act.put, List.setIfInBounds_toArray, List.set_cons_succ, List.set_cons_zero]
    rw [wpMix]
    rw [if_neg (by first | (go_simp; done) | (go_simp; intro hh; cases hh; done) | (go_simp; simp [undef]; done))]
    simp only [Act.put, List.setIfInBounds_toArray, List.set_cons_succ, List.set_cons_zero]
    rw [wpMix]
    rw [if_neg (by first | (go_simp; done) | (go_simp; intro hh; cases hh; done) | (go_simp; simp [undef]; done))]
    simp only [Act.put, List.setIfInBounds_toArray, List.set_cons_succ, List.set_cons_zero]
    refine mix_free (fun K hK => ?_)
    go_simp
    refine hK _ ?_
    clear hK K
    refine mix_free (fun K hK => ?_)
    go_simp
    refine hK _ ?_
    clear hK K
    refine mix_free (fun K hK => ?_)
    go_simp
    refine hK _ ?_
    clear hK K
    refine mix_free (fun K hK => ?_)
    go_simp
    refine hK _ ?_
    clear hK K
    refine mix_free (fun K hK => ?_)
    go_simp
    refine hK _ ?_
    clear hK K
    refine mix_val (.agg #[.int .i64 0, .int .i64 0]) (by rfl) (fun w' hw' => ?_) (fun K hK => ?_)
    · obtain ⟨p0, p1, p2, p3, p4, p5⟩ := hw'
      go_simp
    go_simp
    refine hK _ ?_
    clear hK K
    refine mix_free (fun K hK => ?_)
    go_simp
    refine hK _ ?_
    clear hK K
    refine mix_free (fun K hK => ?_)
    go_simp
    refine hK _ ?_
    clear hK K
    refine mix_free (fun K hK => ?_)
    go_simp
    refine hK _ ?_
    clear hK K
    refine mix_free (fun K hK => ?_)
    go_simp
    refine hK _ ?_
    clear hK K
    refine mix_free (fun K hK => ?_)
    go_simp
    refine hK _ ?_
    clear hK K
    refine mix_step (fun K hK => ?_) (keep1 ⟨F22.c0, F22.c1, F22.c2, F22.c3, T.c0, T.c1⟩)
    go_wp2_with fail
    have kF := grown_trans (grown_trans (grown_trans (grown_setCell w7 (x + 2) 0 (.int .i64 s)) (grown_setCell _ (x + 2) 1 (.int .i64 o))) (grown_setCell _ (x + 2) 2 (.slice ad n cap))) (grown_setCell _ (x + 2) 3 (.int .i64 g))
    replace F22 := F22.grown kF (by simp; omega)
    replace T := T.grown kF (by simp; omega)
    refine hK _ _ (keep1 ⟨F22.c0, F22.c1, F22.c2, F22.c3, T.c0, T.c1⟩) ?_
    clear hK K
    refine mix_free (fun K hK => ?_)
    go_simp
    refine hK _ ?_
    clear hK K
    refine mix_nil ?_
    go_wp2_with fail
    obtain ⟨P, gF, fB, fR⟩ := D.fin s o ad n cap (g) _ rfl
    have e0 := P.c0
    have e1 := P.c1
    have e2 := P.c2
    have e3 := P.c3
    refine bodyPost_ret (v := .tuple #[.agg #[.int .i64 s, .int .i64 o, .slice ad n cap, .int .i64 (g)], .bool true]) (by simp [results, Try.results35, go_sem, e0, e1, e2, e3]) rfl ⟨ad, n, cap, g, all, rfl, fB _ _ _ hB3, fR _ _ _ _ _ D.ref D.far, by omega, gF, .inl rfl⟩
end Go.Proofs.Ytadoobkieehajaa
