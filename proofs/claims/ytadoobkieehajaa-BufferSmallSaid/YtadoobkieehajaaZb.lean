/- One act: Take. -/
import Derived.Test.YtadoobkieehajaaZ
import Derived.Deep.DeepCutAuto
namespace Go.Proofs.Ytadoobkieehajaa
open Go.RowKit Go.Shelf

theorem grown_new {w0 w w' : World} {row : Option Nat} {r : Nat} (h : w0.grownBy w row) (k : w.grownBy w' (some r)) (hr : w0.heap.size ≤ r) : w0.grownBy w' row :=
  ⟨k.os.trans h.os, k.tape.trans h.tape, k.output.trans h.output, Nat.le_trans h.size k.size, fun i hi hne =>
    (k.block i (Nat.lt_of_lt_of_le hi h.size) (fun e => by cases e; omega)).trans (h.block i hi hne)⟩

theorem DoS.keepx {w0 w w' : World} {b s o g n cap : Nat} {ad : Option Addr} {all : List UInt8} {x : Nat} {kind c : UInt8} {nn : Int} {ax : Option Addr} {m cx : Nat} {xs : List UInt8} {r : Nat}
    (h : DoS w0 w b s o g n cap ad all x kind c nn ax m cx xs) (k : w.grownBy w' (some r)) (hr : x + 2 < r) (had : ∀ y, ad = some y → y.block ≠ r) : DoS w0 w' b s o g n cap ad all x kind c nn ax m cx [] := by
  have n1 : ∀ y, ad = some y → some y.block ≠ some r := fun y hy e => had y hy (by simpa using e)
  refine ⟨h.ref.keep k n1, h.far.keep k n1, h.rb.grown k (by simp; omega), h.act.grown k (by simp; omega), h.res.grown k (by simp; omega), .inl rfl, .inl rfl, h.bx, grown_new h.gr k ?_, h.sz⟩
  rw [h.sz]
  omega

set_option maxRecDepth 100000 in
set_option maxHeartbeats 4000000 in
theorem do_take_bad (b s o g n cap : Nat) (ad : Option Addr) (all : List UInt8) (kind c : UInt8) (nn : Int) (ax : Option Addr) (m cx : Nat) (xs : List UInt8) (w : World) (hB : IsBuf w b s (o + g) (all.drop g)) (hR : RefS w b ad n cap g all) (hn : n ≤ 90000) (ho1 : (o : Int) ≤ 281474976710656)
    (hx : Slc w ax xs) (hxb : xs = [] ∨ ∀ y, ax = some y → y.block ≠ b) (hm : xs.length = m) (hmc : m ≤ cx) (hmb : m ≤ 100000) (hbad : nn < 0 ∨ (0 ≤ nn ∧ ((n - g : Nat) : Int) < nn)) (hk : (kind.toNat : Int) % 8 = 4) :
    Calls Try.prog 35 #[.pointer (some ⟨b, 0, none⟩), .agg #[.int .i64 s, .int .i64 o, .slice ad n cap, .int .i64 g], .agg #[.int .u8 kind.toNat, .int .u8 c.toNat, .int .i64 nn, .slice ax m cx]] w fun e w' => ∃ (ad' : Option Addr) (n' cap' g' : Nat) (all' : List UInt8), e = .returned (.tuple #[.agg #[.int .i64 s, .int .i64 o, .slice ad' n' cap', .int .i64 g'], .bool true]) ∧ IsBuf w' b s (o + g') (all'.drop g') ∧ RefS w' b ad' n' cap' g' all' ∧ n' ≤ n + 1 ∧ w.grownBy w' (some b) ∧ (ad' = ad ∨ ∀ y, ad' = some y → w.heap.size ≤ y.block) := by
  have HBAD := Lib.hid hbad
  clear hbad
  have D := DoS.start w b s o g n cap ad all kind c nn ax m cx xs hB.lt hR hx hxb
  have hln := hR.held_len
  have hle := hR.le
  have hgb : g ≤ 100000 := by omega
  have ho0 : (0 : Int) ≤ o := by omega
  have hog : ((o + g : Nat) : Int) = o + g := by omega
  have hfit := hB.fits
  have hs2 := hB.hi
  have hs1 := hB.lo
  rw [hln] at hfit
  have gn := grown_trans (grown_trans (World.grownBy_alloc w (.cells #[.int .i64 s, .int .i64 o, .slice ad n cap, .int .i64 g] 72) none) (World.grownBy_alloc _ (.cells #[.int .u8 kind.toNat, .int .u8 c.toNat, .int .i64 nn, .slice ax m cx] 57) none)) (World.grownBy_alloc _ (.cells #[.int .i64 0, .int .i64 0, .slice none 0 0, .int .i64 0] 72) none)
  replace hB := hB.grown gn (by simp)
  clear gn hR hx
  go_enter Try.func35, Try.ntmps35
  go_wp2_with fail
  generalize ((w.alloc (.cells #[.int .i64 s, .int .i64 o, .slice ad n cap, .int .i64 g] 72)).alloc (.cells #[.int .u8 kind.toNat, .int .u8 c.toNat, .int .i64 nn, .slice ax m cx] 57)).alloc (.cells #[.int .i64 0, .int .i64 0, .slice none 0 0, .int .i64 0] 72) = w1 at D hB ⊢
  have HX := Lib.hid D.sz
  generalize w.heap.size = x at D ⊢
  rw [show x + 1 + 1 = x + 2 from rfl]
  refine (from_any s o ad n cap g w1 ⟨ho0, ho1⟩ hgb).mono ?_
  rintro e w2 ⟨rfl, gn⟩
  replace hB := hB.grown gn (by simp)
  replace D := D.grown gn (.inl rfl)
  clear gn
  have c0 := D.rb.c0
  have c1 := D.rb.c1
  have c2 := D.rb.c2
  have c3 := D.rb.c3
  have a0 := D.act.c0
  have a1 := D.act.c1
  have a2 := D.act.c2
  have a3 := D.act.c3
  go_wp2_with fail
  refine (take_bad b nn _ hB (by rw [hln]; rcases HBAD.out with h | ⟨_, h⟩; exact .inl h; exact .inr h)).mono ?_
  rintro e w3 ⟨rfl, g3⟩
  have hB3 := hB.grown g3 (by simp)
  replace D := D.grown g3 (.inl rfl)
  clear g3 hB
  clear c0 c1 c2 c3 a0 a1 a2 a3
  go_upto_region 12 with fail
  have gn := World.grownBy_alloc w3 (.cells #[.int .i64 0, .int .i64 0] 31) none
  replace D := D.grown gn (.inl rfl)
  replace hB3 := hB3.grown gn (by simp)
  have T : Two (w3.alloc (.cells #[.int .i64 0, .int .i64 0] 31)) w3.heap.size 0 0 := ⟨by rw [World.alloc_heap_new]⟩
  generalize w3.alloc (.cells #[.int .i64 0, .int .i64 0] 31) = w4 at D hB3 T gn  ⊢
  clear gn
  generalize w3.heap.size = y13 at T ⊢
  have c0 := D.rb.c0
  have c1 := D.rb.c1
  have c2 := D.rb.c2
  have c3 := D.rb.c3
  have a0 := D.act.c0
  have a1 := D.act.c1
  have a2 := D.act.c2
  have a3 := D.act.c3
  go_wp2_with fail
  refine (take_ref_bad s o nn b ad n cap g all _ D.ref HBAD.out).mono ?_
  rintro e w5 ⟨rfl, gn⟩
  replace D := D.grown gn (.inl rfl)
  replace hB3 := hB3.grown gn (by simp)
  replace T := T.grown gn (by simp)
  clear gn
  clear c0 c1 c2 c3 a0 a1 a2 a3
  go_upto_region 13 with fail
  have gn := World.grownBy_alloc w5 (.cells #[.int .i64 s, .int .i64 o, .slice ad n cap, .int .i64 g] 72) none
  replace D := D.grown gn (.inl rfl)
  replace hB3 := hB3.grown gn (by simp)
  replace T := T.grown gn (by simp)
  have F15 : Four (w5.alloc (.cells #[.int .i64 s, .int .i64 o, .slice ad n cap, .int .i64 g] 72)) w5.heap.size s o ad n cap g := ⟨World.alloc_heap_new _ _⟩
  generalize w5.alloc (.cells #[.int .i64 s, .int .i64 o, .slice ad n cap, .int .i64 g] 72) = w6 at D hB3 T F15 gn  ⊢
  clear gn
  generalize w5.heap.size = y15 at F15  ⊢
  have u0 := T.c0
  have u1 := T.c1
  go_wp2_with fail
  refine (equal_any [] [] _ _ _ _ _ _ _ rfl rfl (.inl rfl) (.inl rfl)).mono ?_
  rintro e _ ⟨rfl, rfl⟩
  rw [show (([] : List UInt8) == []) = true by simp]
  go_wp2_with fail
  go_loopw [102] (fun v wr => v = .int .i64 0 ∧ w6 = wr) (fun _ _ => 0)
  case atStart => exact ⟨rfl, rfl⟩
  case round =>
    clear u0 u1
    obtain ⟨rfl, rfl⟩ := hrel
    have t0 := F15.c0
    have t1 := F15.c1
    have t2 := F15.c2
    have t3 := F15.c3
    have d0 := D.res.c0
    have d1 := D.res.c1
    have d2 := D.res.c2
    have d3 := D.res.c3
    have z0 := D.res.free 0
    have z1 := D.res.free 1
    have z2 := D.res.free 2
    have z3 := D.res.free 3
    go_wp2_with fail
    obtain ⟨P, gF, fB, fR⟩ := D.fin s o ad n cap (g) _ rfl
    have e0 := P.c0
    have e1 := P.c1
    have e2 := P.c2
    have e3 := P.c3
    refine bodyPost_ret (v := .tuple #[.agg #[.int .i64 s, .int .i64 o, .slice ad n cap, .int .i64 (g)], .bool true]) (by simp [results, Try.results35, go_sem, e0, e1, e2, e3]) rfl ⟨ad, n, cap, g, all, rfl, fB _ _ _ hB3, fR _ _ _ _ _ D.ref D.far, by omega, gF, .inl rfl⟩

set_option maxRecDepth 100000 in
set_option maxHeartbeats 4000000 in
theorem do_take_ok (b s o g n cap : Nat) (ad : Option Addr) (all : List UInt8) (kind c : UInt8) (nn : Int) (ax : Option Addr) (m cx : Nat) (xs : List UInt8) (w : World) (hB : IsBuf w b s (o + g) (all.drop g)) (hR : RefS w b ad n cap g all) (hn : n ≤ 90000) (ho1 : (o : Int) ≤ 281474976710656)
    (hx : Slc w ax xs) (hxb : xs = [] ∨ ∀ y, ax = some y → y.block ≠ b) (hm : xs.length = m) (hmc : m ≤ cx) (hmb : m ≤ 100000) (k : Nat) (hnn : nn = k) (hk : (kind.toNat : Int) % 8 = 4) (hkn : k ≤ n - g) :
    Calls Try.prog 35 #[.pointer (some ⟨b, 0, none⟩), .agg #[.int .i64 s, .int .i64 o, .slice ad n cap, .int .i64 g], .agg #[.int .u8 kind.toNat, .int .u8 c.toNat, .int .i64 nn, .slice ax m cx]] w fun e w' => ∃ (ad' : Option Addr) (n' cap' g' : Nat) (all' : List UInt8), e = .returned (.tuple #[.agg #[.int .i64 s, .int .i64 o, .slice ad' n' cap', .int .i64 g'], .bool true]) ∧ IsBuf w' b s (o + g') (all'.drop g') ∧ RefS w' b ad' n' cap' g' all' ∧ n' ≤ n + 1 ∧ w.grownBy w' (some b) ∧ (ad' = ad ∨ ∀ y, ad' = some y → w.heap.size ≤ y.block) := by
  subst hnn
  have D := DoS.start w b s o g n cap ad all kind c k ax m cx xs hB.lt hR hx hxb
  have hln := hR.held_len
  have hle := hR.le
  have hgb : g ≤ 100000 := by omega
  have ho0 : (0 : Int) ≤ o := by omega
  have hog : ((o + g : Nat) : Int) = o + g := by omega
  have hfit := hB.fits
  have hs2 := hB.hi
  have hs1 := hB.lo
  rw [hln] at hfit
  have gn := grown_trans (grown_trans (World.grownBy_alloc w (.cells #[.int .i64 s, .int .i64 o, .slice ad n cap, .int .i64 g] 72) none) (World.grownBy_alloc _ (.cells #[.int .u8 kind.toNat, .int .u8 c.toNat, .int .i64 k, .slice ax m cx] 57) none)) (World.grownBy_alloc _ (.cells #[.int .i64 0, .int .i64 0, .slice none 0 0, .int .i64 0] 72) none)
  replace hB := hB.grown gn (by simp)
  clear gn hR hx
  go_enter Try.func35, Try.ntmps35
  go_wp2_with fail
  generalize ((w.alloc (.cells #[.int .i64 s, .int .i64 o, .slice ad n cap, .int .i64 g] 72)).alloc (.cells #[.int .u8 kind.toNat, .int .u8 c.toNat, .int .i64 k, .slice ax m cx] 57)).alloc (.cells #[.int .i64 0, .int .i64 0, .slice none 0 0, .int .i64 0] 72) = w1 at D hB ⊢
  have HX := Lib.hid D.sz
  generalize w.heap.size = x at D ⊢
  rw [show x + 1 + 1 = x + 2 from rfl]
  refine (from_any s o ad n cap g w1 ⟨ho0, ho1⟩ hgb).mono ?_
  rintro e w2 ⟨rfl, gn⟩
  replace hB := hB.grown gn (by simp)
  replace D := D.grown gn (.inl rfl)
  clear gn
  have hkb : (k : Int) ≤ 100000 := by omega
  have c0 := D.rb.c0
  have c1 := D.rb.c1
  have c2 := D.rb.c2
  have c3 := D.rb.c3
  have a0 := D.act.c0
  have a1 := D.act.c1
  have a2 := D.act.c2
  have a3 := D.act.c3
  go_wp2_with fail
  have D2 := D
  refine (take_ok b k _ hB (by rw [hln]; exact hkn)).mono ?_
  rintro e w3 ⟨gs, cs, rfl, os, hB3, g3⟩
  rw [hog]
  have hgs : x + 2 < gs := Nat.lt_of_lt_of_le D2.res.lt (os.lt gs rfl).1
  have hga : ∀ y, ad = some y → y.block ≠ gs := fun y hy => by have := D2.ref.old y hy; have := (os.lt gs rfl).1; omega
  replace D := D.grown g3 (.inr rfl)
  clear g3 hB D2
  clear c0 c1 c2 c3 a0 a1 a2 a3
  go_upto_region 12 with fail
  have gn := World.grownBy_alloc w3 (.cells #[.int .i64 (o + g), .int .i64 (o + g + (k : Nat))] 31) none
  replace D := D.grown gn (.inl rfl)
  replace hB3 := hB3.grown gn (by simp)
  replace os := os.kept gn (Classical.em _)
  have T : Two (w3.alloc (.cells #[.int .i64 (o + g), .int .i64 (o + g + (k : Nat))] 31)) w3.heap.size (o + g) (o + g + (k : Nat)) := ⟨by rw [World.alloc_heap_new]⟩
  generalize w3.alloc (.cells #[.int .i64 (o + g), .int .i64 (o + g + (k : Nat))] 31) = w4 at D hB3 T gn os ⊢
  clear gn
  generalize w3.heap.size = y13 at T ⊢
  have c0 := D.rb.c0
  have c1 := D.rb.c1
  have c2 := D.rb.c2
  have c3 := D.rb.c3
  have a0 := D.act.c0
  have a1 := D.act.c1
  have a2 := D.act.c2
  have a3 := D.act.c3
  go_wp2_with fail
  refine (take_ref_ok s o k b ad n cap g all _ D.ref hkn (by omega)).mono ?_
  rintro e w5 ⟨at3, ct3, rfl, hs3, hkc3, gn⟩
  replace D := D.grown gn (.inl rfl)
  replace hB3 := hB3.grown gn (by simp)
  replace T := T.grown gn (by simp)
  replace os := os.kept gn (Classical.em _)
  clear gn
  clear c0 c1 c2 c3 a0 a1 a2 a3
  go_upto_region 13 with fail
  have gn := World.grownBy_alloc w5 (.cells #[.int .i64 s, .int .i64 o, .slice ad n cap, .int .i64 (g + (k : Nat))] 72) none
  replace D := D.grown gn (.inl rfl)
  replace hB3 := hB3.grown gn (by simp)
  replace T := T.grown gn (by simp)
  have hg5 : gs < w5.heap.size := (os.lt gs rfl).2
  replace hs3 := hs3.below (below_of_grown gn) (Nat.le_refl _)
  replace os := os.kept gn (Classical.em _)
  have F15 : Four (w5.alloc (.cells #[.int .i64 s, .int .i64 o, .slice ad n cap, .int .i64 (g + (k : Nat))] 72)) w5.heap.size s o ad n cap (g + (k : Nat)) := ⟨World.alloc_heap_new _ _⟩
  generalize w5.alloc (.cells #[.int .i64 s, .int .i64 o, .slice ad n cap, .int .i64 (g + (k : Nat))] 72) = w6 at D hB3 T F15 gn os hs3 ⊢
  clear gn
  generalize w5.heap.size = y15 at F15 hg5 ⊢
  have u0 := T.c0
  have u1 := T.c1
  go_wp2_with fail
  refine (equal_any ((all.drop g).take k) ((all.drop g).take k) _ _ _ _ _ _ _ ?hn ?hm (slc_of_owns os).1 hs3).mono ?_
  case hn => rw [List.length_take, hln]; omega
  case hm => rw [List.length_take, hln]; omega
  rintro e _ ⟨rfl, rfl⟩
  rw [show ((all.drop g).take k == (all.drop g).take k) = true by simp]
  go_wp2_with fail
  have hrow := Row8.of_owns os
  go_loopw [102] (fun v wr => ∃ j : Nat, j ≤ k ∧ v = .int .i64 j ∧ Row8 wr gs k ∧ w6.grownBy wr (some gs))
    (fun v _ => k - (intOf v).toNat)
  case atStart => exact ⟨0, Nat.zero_le _, rfl, hrow, grown_refl _ _⟩
  case round =>
    clear hrow u0 u1
    obtain ⟨j, hj, rfl, hrow, gr⟩ := hrel
    by_cases hlt : j < k
    · have hlt' : (j : Int) < k := by omega
      obtain ⟨v, hv, hf⟩ := hrow.cell j hlt
      go_wp2_with fail
      go_roundw
      case rel => exact ⟨j + 1, by omega, by go_num, hrow.set j _, grown_trans gr (grown_setCell _ gs j _)⟩
      case measure => simp [intOf]; omega
    · have hge : ¬ ((j : Int) < k) := by omega
      replace D := D.keepx gr hgs hga
      replace hB3 := hB3.grown gr (by have := D.bx; simp; omega)
      replace F15 := F15.grown gr (by simp; omega)
      have t0 := F15.c0
      have t1 := F15.c1
      have t2 := F15.c2
      have t3 := F15.c3
      have d0 := D.res.c0
      have d1 := D.res.c1
      have d2 := D.res.c2
      have d3 := D.res.c3
      have z0 := D.res.free 0
      have z1 := D.res.free 1
      have z2 := D.res.free 2
      have z3 := D.res.free 3
      go_wp2_with fail
      rw [Nat.add_assoc, List.drop_drop] at hB3
      obtain ⟨P, gF, fB, fR⟩ := D.fin s o ad n cap (g + (k )) _ rfl
      have e0 := P.c0
      have e1 := P.c1
      have e2 := P.c2
      have e3 := P.c3
      refine bodyPost_ret (v := .tuple #[.agg #[.int .i64 s, .int .i64 o, .slice ad n cap, .int .i64 (g + (k : Nat))], .bool true]) (by simp [results, Try.results35, go_sem, e0, e1, e2, e3]) rfl ⟨ad, n, cap, g + k, by simp, all, fB _ _ _ hB3, fR _ _ _ _ _ (D.ref.gone (by omega)) (D.far.gone (by omega)), by omega, gF, .inl rfl⟩
end Go.Proofs.Ytadoobkieehajaa
