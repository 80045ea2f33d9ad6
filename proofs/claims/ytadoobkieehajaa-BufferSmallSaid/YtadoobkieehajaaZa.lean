/- One act: Put. -/
import Derived.Test.YtadoobkieehajaaZ
import Derived.Deep.DeepCutAuto
namespace Go.Proofs.Ytadoobkieehajaa
open Go.RowKit Go.Shelf

theorem drop_app (g : Nat) (all : List UInt8) (c : UInt8) (h : g ≤ all.length) : (all ++ [c]).drop g = all.drop g ++ [c] := List.drop_append_of_le_length h

set_option maxRecDepth 100000 in
set_option maxHeartbeats 4000000 in
theorem do_put (b s o g n cap : Nat) (ad : Option Addr) (all : List UInt8) (kind c : UInt8) (nn : Int) (ax : Option Addr) (m cx : Nat) (xs : List UInt8) (w : World) (hB : IsBuf w b s (o + g) (all.drop g)) (hR : RefS w b ad n cap g all) (hn : n ≤ 90000) (ho1 : (o : Int) ≤ 281474976710656)
    (hx : Slc w ax xs) (hxb : xs = [] ∨ ∀ y, ax = some y → y.block ≠ b) (hm : xs.length = m) (hmc : m ≤ cx) (hmb : m ≤ 100000) (q : Nat) (hk : (kind.toNat : Int) % 8 = q) (hq : q = 0 ∨ q = 1 ∨ q = 2 ∨ q = 3) :
    Calls Try.prog 35 #[.pointer (some ⟨b, 0, none⟩), .agg #[.int .i64 s, .int .i64 o, .slice ad n cap, .int .i64 g], .agg #[.int .u8 kind.toNat, .int .u8 c.toNat, .int .i64 nn, .slice ax m cx]] w fun e w' => ∃ (ad' : Option Addr) (n' cap' g' : Nat) (all' : List UInt8), e = .returned (.tuple #[.agg #[.int .i64 s, .int .i64 o, .slice ad' n' cap', .int .i64 g'], .bool true]) ∧ IsBuf w' b s (o + g') (all'.drop g') ∧ RefS w' b ad' n' cap' g' all' ∧ n' ≤ n + 1 ∧ w.grownBy w' (some b) ∧ (ad' = ad ∨ ∀ y, ad' = some y → w.heap.size ≤ y.block) := by
  have D := DoS.start w b s o g n cap ad all kind c nn ax m cx xs hB.lt hR hx hxb
  have hln := hR.held_len
  have hle := hR.le
  have hgb : g ≤ 100000 := by omega
  have ho0 : (0 : Int) ≤ o := by omega
  have hog : ((o + g : Nat) : Int) = o + g := by omega
  have hfit := hB.fits
  have hs2 := hB.hi
  have hs1 := hB.lo
  rw [hln] at hfit
  have gn := grown_trans (grown_trans (World.grownBy_alloc w (.cells #[.int .i64 s, .int .i64 o, .slice ad n cap, .int .i64 g] 72) none) (World.grownBy_alloc _ (.cells #[.int .u8 kind.toNat, .int .u8 c.toNat, .int .i64 nn, .slice ax m cx] 57) none)) (World.grownBy_alloc _ (.cells #[.int .i64 0, .int .i64 0, .slice none 0 0, .int .i64 0] 72) none)
  replace hB := hB.grown gn (by simp)
  clear gn hR hx
  go_enter Try.func35, Try.ntmps35
  go_wp2_with fail
  generalize ((w.alloc (.cells #[.int .i64 s, .int .i64 o, .slice ad n cap, .int .i64 g] 72)).alloc (.cells #[.int .u8 kind.toNat, .int .u8 c.toNat, .int .i64 nn, .slice ax m cx] 57)).alloc (.cells #[.int .i64 0, .int .i64 0, .slice none 0 0, .int .i64 0] 72) = w1 at D hB ⊢
  have HX := Lib.hid D.sz
  generalize w.heap.size = x at D ⊢
  rw [show x + 1 + 1 = x + 2 from rfl]
  refine (from_any s o ad n cap g w1 ⟨ho0, ho1⟩ hgb).mono ?_
  rintro e w2 ⟨rfl, gn⟩
  replace hB := hB.grown gn (by simp)
  replace D := D.grown gn (.inl rfl)
  clear gn
  have c0 := D.rb.c0
  have c1 := D.rb.c1
  have c2 := D.rb.c2
  have c3 := D.rb.c3
  have a0 := D.act.c0
  have a1 := D.act.c1
  have a2 := D.act.c2
  have a3 := D.act.c3
  go_upto_if 31 with fail
  go_cut [31] (fun v wx => v = .bool true ∧ w2 = wx)
  case first =>
    rcases hq with rfl | rfl | rfl | rfl
    all_goals (go_wp2_with fail; go_meet; exact ⟨rfl, rfl⟩)
  case rest =>
    obtain ⟨rfl, rfl⟩ := hcut
    have hbx := D.bx
    have HBX := Lib.hid hbx
    clear hbx hk hq
    go_wp2_with fail
    by_cases hf : n - g = s
    · refine (put_full _ _ _ hB (hln.trans hf)).mono ?_
      rintro e w3 ⟨rfl, m3, hm3⟩
      have g3 : w2.grownBy w3 (some b) := by rw [hm3]; exact grown_drewN _ _ _
      have hB3 : IsBuf w3 b s (o + g) (all.drop g) := by rw [hm3]; exact hB.drewN m3
      clear hm3 hB
      replace D := D.grown g3 (.inr rfl)
      clear g3 c0 c1 c2 c3 a0 a1 a2 a3
      have c0 := D.rb.c0
      have c1 := D.rb.c1
      have c2 := D.rb.c2
      have c3 := D.rb.c3
      have a0 := D.act.c0
      have a1 := D.act.c1
      have a2 := D.act.c2
      have a3 := D.act.c3
      go_wp2_with fail
      refine (put_ref_full s o c b ad n cap g all _ D.ref hf).mono ?_
      rintro e w4 ⟨rfl, gn⟩
      go_upto_region 9 with fail
      replace D := D.grown gn (.inl rfl)
      replace hB3 := hB3.grown gn (by simp)
      clear c0 c1 c2 c3 a0 a1 a2 a3
      replace D := D.grown (World.grownBy_alloc w4 (.cells #[.int .i64 s, .int .i64 o, .slice ad n cap, .int .i64 g] 72) none) (.inl rfl)
      replace hB3 := hB3.grown (World.grownBy_alloc w4 (.cells #[.int .i64 s, .int .i64 o, .slice ad n cap, .int .i64 g] 72) none) (by simp)
      have F10 : Four (w4.alloc (.cells #[.int .i64 s, .int .i64 o, .slice ad n cap, .int .i64 g] 72)) w4.heap.size s o ad n cap g := ⟨World.alloc_heap_new _ _⟩
      generalize w4.alloc (.cells #[.int .i64 s, .int .i64 o, .slice ad n cap, .int .i64 g] 72) = w5 at D hB3 F10  ⊢
      generalize w4.heap.size = y at F10 ⊢
      have t0 := F10.c0
      have t1 := F10.c1
      have t2 := F10.c2
      have t3 := F10.c3
      have d0 := D.res.c0
      have d1 := D.res.c1
      have d2 := D.res.c2
      have d3 := D.res.c3
      have z0 := D.res.free 0
      have z1 := D.res.free 1
      have z2 := D.res.free 2
      have z3 := D.res.free 3
      go_wp2_with fail
      obtain ⟨P, gF, fB, fR⟩ := D.fin s o ad n cap (g) _ rfl
      have e0 := P.c0
      have e1 := P.c1
      have e2 := P.c2
      have e3 := P.c3
      refine bodyPost_ret (v := .tuple #[.agg #[.int .i64 s, .int .i64 o, .slice ad n cap, .int .i64 (g)], .bool true]) (by simp [results, Try.results35, go_sem, e0, e1, e2, e3]) rfl ⟨ad, n, cap, g, all, rfl, fB _ _ _ hB3, fR _ _ _ _ _ D.ref D.far, by omega, gF, .inl rfl⟩
    · by_cases hl : o + n < 281474976710656
      · refine (put_ok _ _ _ hB (by rw [hln]; omega) (by rw [hln]; omega)).mono ?_
        rintro e w3 ⟨rfl, hB3, g3⟩
        clear hB
        replace D := D.grown g3 (.inr rfl)
        clear g3 c0 c1 c2 c3 a0 a1 a2 a3
        have c0 := D.rb.c0
        have c1 := D.rb.c1
        have c2 := D.rb.c2
        have c3 := D.rb.c3
        have a0 := D.act.c0
        have a1 := D.act.c1
        have a2 := D.act.c2
        have a3 := D.act.c3
        go_wp2_with fail
        have hbw := D.res.lt
        have H0 := HBX.out
        refine (put_ref_ok s o c b ad n cap g all _ D.ref (by omega) hl (by omega)).mono ?_
        clear hbw H0
        rintro e w4 ⟨ad4, cap4, rfl, hR4, gn⟩
        have hR5 := hR4 b (by have := D.res.lt; have := HBX.out; omega)
        have hR6 := hR4 (x + 2) D.res.lt
        have hfr : ∀ y, ad4 = some y → w.heap.size ≤ y.block := fun y hy => by
          refine Nat.le_of_not_lt fun hlt => ?_
          exact (hR4 y.block (Nat.lt_of_lt_of_le hlt D.gr.size)).apart y hy rfl
        clear hR4
        rw [← drop_app g all c (by have := D.ref.len; omega)] at hB3
        go_upto_region 9 with fail
        have gA := World.grownBy_alloc w4 (.cells #[.int .i64 s, .int .i64 o, .slice ad4 (n + 1) cap4, .int .i64 g] 72) none
        replace hR5 := hR5.grown gA (.inl rfl)
        replace hR6 := hR6.grown gA (.inl rfl)
        replace D := D.grown gn (.inl rfl)
        replace hB3 := hB3.grown gn (by simp)
        clear c0 c1 c2 c3 a0 a1 a2 a3
        replace D := D.grown (World.grownBy_alloc w4 (.cells #[.int .i64 s, .int .i64 o, .slice ad4 (n + 1) cap4, .int .i64 g] 72) none) (.inl rfl)
        replace hB3 := hB3.grown (World.grownBy_alloc w4 (.cells #[.int .i64 s, .int .i64 o, .slice ad4 (n + 1) cap4, .int .i64 g] 72) none) (by simp)
        have F10 : Four (w4.alloc (.cells #[.int .i64 s, .int .i64 o, .slice ad4 (n + 1) cap4, .int .i64 g] 72)) w4.heap.size s o ad4 (n + 1) cap4 g := ⟨World.alloc_heap_new _ _⟩
        generalize w4.alloc (.cells #[.int .i64 s, .int .i64 o, .slice ad4 (n + 1) cap4, .int .i64 g] 72) = w5 at D hB3 F10 hR5 hR6 ⊢
        generalize w4.heap.size = y at F10 ⊢
        have t0 := F10.c0
        have t1 := F10.c1
        have t2 := F10.c2
        have t3 := F10.c3
        have d0 := D.res.c0
        have d1 := D.res.c1
        have d2 := D.res.c2
        have d3 := D.res.c3
        have z0 := D.res.free 0
        have z1 := D.res.free 1
        have z2 := D.res.free 2
        have z3 := D.res.free 3
        go_wp2_with fail
        obtain ⟨P, gF, fB, fR⟩ := D.fin s o ad4 (n + 1) cap4 (g) _ rfl
        have e0 := P.c0
        have e1 := P.c1
        have e2 := P.c2
        have e3 := P.c3
        refine bodyPost_ret (v := .tuple #[.agg #[.int .i64 s, .int .i64 o, .slice ad4 (n + 1) cap4, .int .i64 (g)], .bool true]) (by simp [results, Try.results35, go_sem, e0, e1, e2, e3]) rfl ⟨ad4, (n + 1), cap4, g, (all ++ [c]), rfl, fB _ _ _ hB3, fR _ _ _ _ _ hR5 hR6, by omega, gF, .inr hfr⟩
      · refine (put_long _ _ _ hB (by rw [hln]; omega) (by rw [hln]; have := hB.most; rw [hln] at this; omega)).mono ?_
        rintro e w3 ⟨rfl, m3, hm3⟩
        have g3 : w2.grownBy w3 (some b) := by rw [hm3]; exact grown_drewN _ _ _
        have hB3 : IsBuf w3 b s (o + g) (all.drop g) := by rw [hm3]; exact hB.drewN m3
        clear hm3 hB
        replace D := D.grown g3 (.inr rfl)
        clear g3 c0 c1 c2 c3 a0 a1 a2 a3
        have c0 := D.rb.c0
        have c1 := D.rb.c1
        have c2 := D.rb.c2
        have c3 := D.rb.c3
        have a0 := D.act.c0
        have a1 := D.act.c1
        have a2 := D.act.c2
        have a3 := D.act.c3
        go_wp2_with fail
        refine (put_ref_long s o c b ad n cap g all _ D.ref (by omega) (by omega) (by omega) (by omega)).mono ?_
        rintro e w4 ⟨rfl, gn⟩
        go_upto_region 9 with fail
        replace D := D.grown gn (.inl rfl)
        replace hB3 := hB3.grown gn (by simp)
        clear c0 c1 c2 c3 a0 a1 a2 a3
        replace D := D.grown (World.grownBy_alloc w4 (.cells #[.int .i64 s, .int .i64 o, .slice ad n cap, .int .i64 g] 72) none) (.inl rfl)
        replace hB3 := hB3.grown (World.grownBy_alloc w4 (.cells #[.int .i64 s, .int .i64 o, .slice ad n cap, .int .i64 g] 72) none) (by simp)
        have F10 : Four (w4.alloc (.cells #[.int .i64 s, .int .i64 o, .slice ad n cap, .int .i64 g] 72)) w4.heap.size s o ad n cap g := ⟨World.alloc_heap_new _ _⟩
        generalize w4.alloc (.cells #[.int .i64 s, .int .i64 o, .slice ad n cap, .int .i64 g] 72) = w5 at D hB3 F10  ⊢
        generalize w4.heap.size = y at F10 ⊢
        have t0 := F10.c0
        have t1 := F10.c1
        have t2 := F10.c2
        have t3 := F10.c3
        have d0 := D.res.c0
        have d1 := D.res.c1
        have d2 := D.res.c2
        have d3 := D.res.c3
        have z0 := D.res.free 0
        have z1 := D.res.free 1
        have z2 := D.res.free 2
        have z3 := D.res.free 3
        go_wp2_with fail
        obtain ⟨P, gF, fB, fR⟩ := D.fin s o ad n cap (g) _ rfl
        have e0 := P.c0
        have e1 := P.c1
        have e2 := P.c2
        have e3 := P.c3
        refine bodyPost_ret (v := .tuple #[.agg #[.int .i64 s, .int .i64 o, .slice ad n cap, .int .i64 (g)], .bool true]) (by simp [results, Try.results35, go_sem, e0, e1, e2, e3]) rfl ⟨ad, n, cap, g, all, rfl, fB _ _ _ hB3, fR _ _ _ _ _ D.ref D.far, by omega, gF, .inl rfl⟩

end Go.Proofs.Ytadoobkieehajaa
