/- All acts, one behind the other. -/
import Derived.Test.YtadoobkieehajaaZe
import Derived.Deep.DeepCutAuto
namespace Go.Proofs.Ytadoobkieehajaa
open Go.RowKit Go.Shelf

theorem put_any (a : Nat) {s o l} (c : UInt8) (w : World) (h : IsBuf w a s o l) :
    Calls Try.prog 17 #[.pointer (some ⟨a, 0, none⟩), .int .u8 c.toNat] w fun e w' => ∃ k o' l', e = .returned (.int .i64 k) ∧ IsBuf w' a s o' l' ∧ w.grownBy w' (some a) := by
  have hf := h.fits
  have hmo := h.most
  by_cases hl : l.length = s
  · refine (put_full a c w h hl).mono ?_
    rintro e w' ⟨rfl, m, rfl⟩
    exact ⟨_, o, l, rfl, h.drewN m, grown_drewN _ _ _⟩
  · by_cases ho : o + l.length < 281474976710656
    · refine (put_ok a c w h (by omega) ho).mono ?_
      rintro e w' ⟨rfl, hb, g⟩
      exact ⟨_, _, _, rfl, hb, g⟩
    · refine (put_long a c w h (by omega) (by omega)).mono ?_
      rintro e w' ⟨rfl, m, rfl⟩
      exact ⟨_, o, l, rfl, h.drewN m, grown_drewN _ _ _⟩

/-- An act as it lies in memory. -/
structure ActAt (w : World) (blk off : Nat) (kind c : UInt8) (nn : Int) (ax : Option Addr) (m cx : Nat) (xs : List UInt8) : Prop where
  c0 : w.cell? ⟨blk, off, none⟩ = some (.int .u8 kind.toNat)
  c1 : w.cell? ⟨blk, off + 1, none⟩ = some (.int .u8 c.toNat)
  c2 : w.cell? ⟨blk, off + 2, none⟩ = some (.int .i64 nn)
  c3 : w.cell? ⟨blk, off + 3, none⟩ = some (.slice ax m cx)
  row : Slc w ax xs
  len : xs.length = m
  fits : m ≤ cx
def ActsAt (w : World) (al : Option Addr) (len : Nat) : Prop :=
  len = 0 ∨ ∃ blk off, al = some ⟨blk, off, none⟩ ∧ blk < w.heap.size ∧ ∀ i, i < len → ∃ kind c nn ax m cx xs, ActAt w blk (off + i * 4) kind c nn ax m cx xs ∧ m ≤ 1000

theorem ActAt.below {w w' : World} {blk off : Nat} {kind c : UInt8} {nn : Int} {ax : Option Addr} {m cx : Nat} {xs : List UInt8} (h : ActAt w blk off kind c nn ax m cx xs) (k : Below w.heap.size w w') (hb : blk < w.heap.size) : ActAt w' blk off kind c nn ax m cx xs :=
  ⟨(k.cell (p := ⟨blk, off, none⟩) hb).trans h.c0, (k.cell (p := ⟨blk, off + 1, none⟩) hb).trans h.c1, (k.cell (p := ⟨blk, off + 2, none⟩) hb).trans h.c2, (k.cell (p := ⟨blk, off + 3, none⟩) hb).trans h.c3,
    h.row.below k (Nat.le_refl _), h.len, h.fits⟩

/-- What stands between two acts. -/
structure DoesS (w0 w : World) (s o x b g n cap : Nat) (ad : Option Addr) (all : List UInt8) : Prop where
  buf : IsBuf w b s (o + g) (all.drop g)
  ref : RefS w b ad n cap g all
  box : Four w x s o ad n cap g
  far : ∀ y, ad = some y → y.block ≠ x
  bn : w0.heap.size ≤ b
  xn : w0.heap.size ≤ x
  nb : b ≠ x
  bel : Below w0.heap.size w0 w

theorem DoesS.grown {w0 w w' : World} {s o x b g n cap : Nat} {ad : Option Addr} {all : List UInt8} (h : DoesS w0 w s o x b g n cap ad all) (k : w.grownBy w' none) : DoesS w0 w' s o x b g n cap ad all :=
  ⟨h.buf.grown k (by simp), h.ref.grown k (.inl rfl), h.box.grown k (by simp), h.far, h.bn, h.xn, h.nb, h.bel.trans ((below_of_grown k).mono h.bel.size)⟩

set_option maxRecDepth 100000 in
set_option maxHeartbeats 4000000 in
theorem does_bad (s o : Int) (al : Option Addr) (len cap : Nat) (i : Int) (w : World) (h : s < 2 ∨ 256 < s ∨ o < 0 ∨ 281474976710656 < o) :
    Calls Try.prog 27 #[.int .i64 s, .int .i64 o, .slice al len cap, .int .i64 i] w fun e w' => e = .returned (.bool true) ∧ Below w.heap.size w w' := by
  have H := Lib.hid h
  clear h
  go_enter Try.func27, Try.ntmps27
  go_wp2_with fail
  refine (new_bad s o w H.out).mono ?_
  rintro e _ ⟨rfl, rfl⟩
  go_wp2_with fail
  refine (good_no s o w H.out).mono ?_
  rintro e _ ⟨rfl, rfl⟩
  go_wp2_with fail
  go_ret
  exact ⟨rfl, Below.refl _ _⟩

set_option maxRecDepth 100000 in
set_option maxHeartbeats 4000000 in
theorem does_good (s o : Nat) (al : Option Addr) (len cap : Nat) (i : Int) (w : World) (hs1 : 2 ≤ s) (hs2 : s ≤ 256) (ho : o ≤ 281474976710656) (hA : ActsAt w al len) (hlen : len ≤ 80000) :
    Calls Try.prog 27 #[.int .i64 s, .int .i64 o, .slice al len cap, .int .i64 i] w fun e w' => e = .returned (.bool true) ∧ Below w.heap.size w w' := by
  have ho1 : (o : Int) ≤ 281474976710656 := by omega
  go_enter Try.func27, Try.ntmps27
  go_wp2_with fail
  refine (new_ok s o w hs1 hs2 ho).mono ?_
  rintro e w1 ⟨rfl, hb, g1⟩
  go_wp2_with fail
  refine (good_yes s o w1 hs1 hs2 ho).mono ?_
  rintro e _ ⟨rfl, rfl⟩
  have B1 := below_of_grown g1
  have hbn : w.heap.size < w1.heap.size := hb.lt
  go_upto_region 5 with fail
  have gn := World.grownBy_alloc w1 (.cells #[.int .i64 s, .int .i64 o, .slice none 0 0, .int .i64 0] 72) none
  have S : DoesS w (w1.alloc (.cells #[.int .i64 s, .int .i64 o, .slice none 0 0, .int .i64 0] 72)) s o w1.heap.size w.heap.size 0 0 0 none [] :=
    ⟨hb.grown gn (by simp), ⟨rfl, .inl rfl, Nat.le_refl _, Nat.zero_le _, Nat.le_refl _, (fun _ => rfl), (fun y hy => by cases hy), (fun y hy => by cases hy)⟩, ⟨World.alloc_heap_new _ _⟩, (fun y hy => by cases hy), Nat.le_refl _, by omega, by omega, B1.trans ((below_of_grown gn).mono B1.size)⟩
  generalize w1.alloc (.cells #[.int .i64 s, .int .i64 o, .slice none 0 0, .int .i64 0] 72) = w2 at S gn ⊢
  clear gn g1 B1 hb
  generalize w1.heap.size = x at S hbn ⊢
  have c0 := S.box.c0
  have c1 := S.box.c1
  have c2 := S.box.c2
  have c3 := S.box.c3
  go_wp2_with fail
  refine (told_any w.heap.size s o 0 0 0 none [] i w2 S.buf S.ref (by omega) ho1).mono ?_
  rintro e w3 ⟨rfl, g3⟩
  replace S := S.grown g3
  clear g3 c0 c1 c2 c3
  go_wp2_with fail
  go_loopw [50, 9] (fun v vb wr => ∃ (j b g n cp : Nat) (ad : Option Addr) (all : List UInt8), j ≤ len ∧ v = .int .i64 j ∧ vb = .pointer (some ⟨b, 0, none⟩) ∧ DoesS w wr s o x b g n cp ad all ∧ n ≤ j)
    (fun v _ _ => len - (intOf v).toNat)
  case atStart => exact ⟨0, w.heap.size, 0, 0, 0, none, [], Nat.zero_le _, rfl, rfl, S, Nat.le_refl _⟩
  case round =>
    clear S
    obtain ⟨j, b, g, n, cp, ad, all, hj, rfl, rfl, S, hnj⟩ := hrel
    by_cases hlt : j < len
    · have hlt' : (j : Int) < len := by omega
      obtain h0 | ⟨blk, off, rfl, hblk, hacts⟩ := hA
      · omega
      obtain ⟨kind, c, nn, ax, m, cx, xs, hact0, hm1⟩ := hacts j hlt
      have hact := hact0.below S.bel hblk
      have hX0 := hact0.row
      have hxm := hact0.len
      have hxc := hact0.fits
      clear hacts hact0
      have a0 := hact.c0
      have a1 := hact.c1
      have a2 := hact.c2
      have a3 := hact.c3
      go_upto_region 10 with fail
      clear a0 a1 a2 a3 hact
      have hyb := S.buf.lt
      have hyx := S.box.lt
      have gn := World.grownBy_alloc wr (.cells #[.int .u8 kind.toNat, .int .u8 c.toNat, .int .i64 nn, .slice ax m cx] 57) none
      replace S := S.grown gn
      have A : ActB (wr.alloc (.cells #[.int .u8 kind.toNat, .int .u8 c.toNat, .int .i64 nn, .slice ax m cx] 57)) wr.heap.size kind c nn ax m cx := ⟨World.alloc_heap_new _ _⟩
      generalize wr.alloc (.cells #[.int .u8 kind.toNat, .int .u8 c.toNat, .int .i64 nn, .slice ax m cx] 57) = w4 at S A gn ⊢
      clear gn
      generalize wr.heap.size = y at A hyb hyx ⊢
      have a0 := A.c0
      have a1 := A.c1
      have a2 := A.c2
      have a3 := A.c3
      go_upto_if 57 with fail
      go_cut [9] (fun vb wx => ∃ b, vb = .pointer (some ⟨b, 0, none⟩) ∧ DoesS w wx s o x b g n cp ad all ∧ ActB wx y kind c nn ax m cx)
      case first =>
        by_cases hk : (kind.toNat : Int) % 8 = 7
        · go_wp2_with fail
          refine (copy_any b w4 S.buf).mono ?_
          rintro e w5 ⟨rfl, hb5, g5⟩
          have hbo := S.ref.old
          have hbx := S.box.lt
          have hbb := S.buf.lt
          have hba := A.lt
          have hbw := S.bel.size
          replace S := S.grown g5
          replace A := A.grown g5 (by simp)
          clear g5 a0 a1 a2 a3
          generalize w4.heap.size = b2 at hb5 hbo hbx hbb hba hbw ⊢
          have a0 := A.c0
          have a1 := A.c1
          have a2 := A.c2
          have a3 := A.c3
          have hnb := S.nb
          go_wp2_with fail
          refine (put_any b c w5 S.buf).mono ?_
          rintro e w6 ⟨k6, o6, l6, rfl, hb6, g6⟩
          replace A := A.grown g6 (by simp; omega)
          replace hb5 := hb5.grown g6 (by simp; omega)
          have hR6 := S.ref.grown g6 (.inr rfl)
          have hX6 := S.box.grown g6 (by simp; omega)
          have B6 := below_grown S.bel g6 S.bel.size S.bn
          clear g6 a0 a1 a2 a3
          go_wp2_with fail
          refine (take_some b 1 w6 hb6).mono ?_
          rintro e w7 ⟨v7, o7, l7, rfl, _, _, g7⟩
          replace A := A.grown g7 (by simp; omega)
          replace hb5 := hb5.grown g7 (by simp; omega)
          replace hR6 := hR6.grown g7 (.inr rfl)
          replace hX6 := hX6.grown g7 (by simp; omega)
          replace B6 := below_grown B6 g7 B6.size S.bn
          go_wp2_with fail
          go_meet
          case rel => exact ⟨b2, rfl, ⟨hb5, hR6.other (fun z hz => by have := hbo z hz; omega), hX6, S.far, hbw, S.xn, by omega, B6⟩, A⟩
        · go_wp2_with fail
          go_meet
          case rel => exact ⟨b, rfl, S, A⟩
      case rest =>
        clear S A a0 a1 a2 a3 hyb
        obtain ⟨b, rfl, S, A⟩ := hcut
        have a0 := A.c0
        have a1 := A.c1
        have a2 := A.c2
        have a3 := A.c3
        have c0 := S.box.c0
        have c1 := S.box.c1
        have c2 := S.box.c2
        have c3 := S.box.c3
        have hbx := S.box.lt
        have hbn := S.bn
        go_wp2_with fail
        have hxb : xs = [] ∨ ∀ z, ax = some z → z.block ≠ b := by
          rcases hX0 with e | ⟨zb, zo, rfl, hz, _⟩
          · exact .inl e
          · refine .inr fun z hz' => ?_
            cases hz'
            show zb ≠ b
            omega
        refine (do_any b s o g n cp ad all kind c nn ax m cx xs wc S.buf S.ref (by omega) ho1 (hX0.below S.bel (Nat.le_refl _)) hxb hxm hxc (by omega)).mono ?_
        rintro e w8 ⟨ad', n', cp', g', all', rfl, hb8, hr8, hn8, g8, hfr⟩
        have hnb := S.nb
        have far8 : ∀ z, ad' = some z → z.block ≠ x := by
          rcases hfr with rfl | hfr
          · exact S.far
          · intro z hz
            have := hfr z hz
            omega
        have box8 := S.box.grown g8 (by simp; omega)
        have bel8 := below_grown S.bel g8 S.bel.size S.bn
        have hxn := S.xn
        clear a0 a1 a2 a3 c0 c1 c2 c3 S A g8 hfr
        have c0 := box8.c0
        have c1 := box8.c1
        have c2 := box8.c2
        have c3 := box8.c3
        have z0 := box8.free 0
        have z1 := box8.free 1
        have z2 := box8.free 2
        have z3 := box8.free 3
        go_upto_region 19 with fail
        have P := box8.put s o ad' n' cp' g'
        have k9 := grown_trans (grown_trans (grown_trans (grown_setCell w8 x 0 (.int .i64 s)) (grown_setCell _ x 1 (.int .i64 o))) (grown_setCell _ x 2 (.slice ad' n' cp'))) (grown_setCell _ x 3 (.int .i64 g'))
        have S9 : DoesS w _ s o x b g' n' cp' ad' all' := ⟨hb8.grown k9 (by simp; omega), hr8.keep k9 (fun z hz e => far8 z hz (by simpa using e)), P, far8, hbn, hxn, hnb, below_grown bel8 k9 bel8.size hxn⟩
        clear c0 c1 c2 c3 z0 z1 z2 z3 P k9
        generalize (((w8.setCell ⟨x, 0, none⟩ (.int .i64 s)).setCell ⟨x, 1, none⟩ (.int .i64 o)).setCell ⟨x, 2, none⟩ (.slice ad' n' cp')).setCell ⟨x, 3, none⟩ (.int .i64 g') = w9 at S9 ⊢
        have c0 := S9.box.c0
        have c1 := S9.box.c1
        have c2 := S9.box.c2
        have c3 := S9.box.c3
        go_wp2_with fail
        refine (told_any b s o g' n' cp' ad' all' i w9 S9.buf S9.ref (by omega) ho1).mono ?_
        rintro e w10 ⟨rfl, g10⟩
        replace S9 := S9.grown g10
        clear g10 c0 c1 c2 c3
        go_wp2_with fail
        go_roundw
        case rel => exact ⟨j + 1, b, g', n', cp', ad', all', by omega, by go_num, rfl, S9, by omega⟩
        case measure => simp [intOf]; omega
    · obtain rfl : j = len := by omega
      have hge : ¬ ((j : Int) < j) := by omega
      go_upto_region 22 with fail
      refine region_mix [(0, .inl none), (2, .inl (some 0)), (1, .inr [0]), (3, .inr [0]), (4, .inr [0]), (5, .inl none)]
        (fun _ W => W.cell? ⟨x, 0, none⟩ = some (.int .i64 s) ∧ W.cell? ⟨x, 1, none⟩ = some (.int .i64 o) ∧ W.cell? ⟨x, 2, none⟩ = some (.slice ad n cp) ∧ W.cell? ⟨x, 3, none⟩ = some (.int .i64 g)) (by kernel_rfl) (by kernel_rfl) (fun _ => S.box.cells) ?_
      simp only [pickK, List.filterMap_cons, List.filterMap_nil, List.getElem?_toArray, List.getElem?_cons_zero, List.getElem?_cons_succ, Option.map_some]
      replace S := S.grown (grown_drewN wr 1 none)
      generalize wr.drewN 1 = w4 at S ⊢
      refine mix_free (fun K hK => ?_)
      go_simp
      refine hK _ ?_
      clear hK K
      refine mix_val (.agg #[.int .i64 s, .int .i64 o, .slice ad n cp, .int .i64 g]) (by rfl) (fun w' hw' => ?_) (fun K hK => ?_)
      · obtain ⟨p0, p1, p2, p3⟩ := hw'
        go_simp
      go_simp
      refine hK _ ?_
      clear hK K
      refine mix_step (fun K hK => ?_) (keep1 S.box.cells)
      go_wp2_with fail
      refine (bytes_any _ _ S.buf).mono ?_
      rintro e w5 ⟨ga, ca, rfl, os, g5⟩
      replace S := S.grown g5
      clear g5
      go_wp2_with fail
      refine hK _ _ (keep1 S.box.cells) ?_
      clear hK K
      refine mix_step (fun K hK => ?_) (keep1 S.box.cells)
      go_wp2_with fail
      refine (held_any s o b ad n cp g all w5 S.ref).mono ?_
      rintro e w6 ⟨rfl, g6⟩
      replace S := S.grown g6
      replace os := os.kept g6 (Classical.em _)
      clear g6
      go_wp2_with fail
      refine hK _ _ (keep1 S.box.cells) ?_
      clear hK K
      refine mix_step (fun K hK => ?_) (keep1 S.box.cells)
      go_wp2_with fail
      refine (equal_any (all.drop g) (all.drop g) _ _ _ _ _ _ _ ?hn ?hm (slc_of_owns os).1 S.ref.held).mono ?_
      case hn => rw [List.length_drop]
      case hm => exact S.ref.held_len
      rintro e _ ⟨rfl, rfl⟩
      rw [show (all.drop g == all.drop g) = true by simp]
      go_wp2_with fail
      refine hK _ _ (keep1 S.box.cells) ?_
      clear hK K
      refine mix_free (fun K hK => ?_)
      go_simp
      refine hK _ ?_
      clear hK K
      refine mix_nil ?_
      go_wp2_with fail
      go_ret
      exact ⟨rfl, S.bel⟩
end Go.Proofs.Ytadoobkieehajaa
