/- One act: the lemmas. -/
import Derived.Test.YtadoobkieehajaaYe
namespace Go.Proofs.Ytadoobkieehajaa
open Go.RowKit Go.Shelf

theorem mix_skip {P : Program} {ops : Array Oper} {L : Act → World → Prop} {c : Nat → World → Prop} {a : Act} {w : World} {o : Oper} {k : Option Nat} {r : List (Oper × (Option Nat ⊕ List Nat))} (hw : Region.wanted o (yielded ops a.tmps) = false)
    (hn : ∀ K : Act → Prop, (∀ a, wpMix P ops c L r a w → K a) → K (a.put o.dst undef)) : wpMix P ops c L ((o, .inl k) :: r) a w := by
  simp only [wpMix, hw]
  exact hn (fun a => wpMix P ops c L r a w) (fun _ h => h)

theorem RefS.keep {w w' : World} {b : Nat} {ad : Option Addr} {n cap g : Nat} {all : List UInt8} {row : Option Nat} (h : RefS w b ad n cap g all) (k : w.grownBy w' row) (hr : ∀ x, ad = some x → some x.block ≠ row) : RefS w' b ad n cap g all := by
  refine ⟨h.len, ?_, h.fits, h.most, h.le, h.nil, h.apart, fun x hx => Nat.lt_of_lt_of_le (h.old x hx) k.size⟩
  rcases h.slc with e | ⟨c, off, rfl, hc, hv⟩
  · exact .inl e
  · exact .inr ⟨c, off, rfl, Nat.lt_of_lt_of_le hc k.size, fun j hj => (World.cell?_of_block (a := ⟨c, off + j, .none⟩) (k.block c hc (hr _ rfl))).trans (hv j hj)⟩
theorem RefS.other {w : World} {b y : Nat} {ad : Option Addr} {n cap g : Nat} {all : List UInt8} (h : RefS w b ad n cap g all) (hy : ∀ x, ad = some x → x.block ≠ y) : RefS w y ad n cap g all :=
  ⟨h.len, h.slc, h.fits, h.most, h.le, h.nil, hy, h.old⟩
theorem RefS.gone {w : World} {b : Nat} {ad : Option Addr} {n cap g g' : Nat} {all : List UInt8} (h : RefS w b ad n cap g all) (hy : g' ≤ n) : RefS w b ad n cap g' all :=
  ⟨h.len, h.slc, h.fits, h.most, hy, h.nil, h.apart, h.old⟩

/-- A box of an act. -/
structure ActB (w : World) (y : Nat) (kind c : UInt8) (nn : Int) (ax : Option Addr) (m cx : Nat) : Prop where
  blk : w.heap[y]? = some (.cells #[.int .u8 kind.toNat, .int .u8 c.toNat, .int .i64 nn, .slice ax m cx] 57)
theorem ActB.c0 {w : World} {y : Nat} {kind c : UInt8} {nn : Int} {ax : Option Addr} {m cx : Nat} (h : ActB w y kind c nn ax m cx) : w.cell? ⟨y, 0, none⟩ = some (.int .u8 kind.toNat) := by simp [World.cell?, h.blk]
theorem ActB.c1 {w : World} {y : Nat} {kind c : UInt8} {nn : Int} {ax : Option Addr} {m cx : Nat} (h : ActB w y kind c nn ax m cx) : w.cell? ⟨y, 1, none⟩ = some (.int .u8 c.toNat) := by simp [World.cell?, h.blk]
theorem ActB.c2 {w : World} {y : Nat} {kind c : UInt8} {nn : Int} {ax : Option Addr} {m cx : Nat} (h : ActB w y kind c nn ax m cx) : w.cell? ⟨y, 2, none⟩ = some (.int .i64 nn) := by simp [World.cell?, h.blk]
theorem ActB.c3 {w : World} {y : Nat} {kind c : UInt8} {nn : Int} {ax : Option Addr} {m cx : Nat} (h : ActB w y kind c nn ax m cx) : w.cell? ⟨y, 3, none⟩ = some (.slice ax m cx) := by simp [World.cell?, h.blk]
theorem ActB.lt {w : World} {y : Nat} {kind c : UInt8} {nn : Int} {ax : Option Addr} {m cx : Nat} (h : ActB w y kind c nn ax m cx) : y < w.heap.size := (Array.getElem?_eq_some_iff.1 h.blk).1
theorem ActB.grown {w w' : World} {y : Nat} {kind c : UInt8} {nn : Int} {ax : Option Addr} {m cx : Nat} {row : Option Nat} (h : ActB w y kind c nn ax m cx) (k : w.grownBy w' row) (hr : some y ≠ row) : ActB w' y kind c nn ax m cx := ⟨(k.block y h.lt hr).trans h.blk⟩

theorem Slc.keep {w w' : World} {ad : Option Addr} {xs : List UInt8} {row : Option Nat} (h : Slc w ad xs) (k : w.grownBy w' row) (hr : ∀ x, ad = some x → some x.block ≠ row) : Slc w' ad xs := by
  rcases h with e | ⟨c, off, rfl, hc, hv⟩
  · exact .inl e
  · exact .inr ⟨c, off, rfl, Nat.lt_of_lt_of_le hc k.size, fun j hj => (World.cell?_of_block (a := ⟨c, off + j, .none⟩) (k.block c hc (hr _ rfl))).trans (hv j hj)⟩

/-- What stands while an act is done: the boxes behind x, the reference's bytes, the act's bytes. -/
structure DoS (w0 w : World) (b s o g n cap : Nat) (ad : Option Addr) (all : List UInt8) (x : Nat) (kind c : UInt8) (nn : Int) (ax : Option Addr) (m cx : Nat) (xs : List UInt8) : Prop where
  ref : RefS w b ad n cap g all
  far : RefS w (x + 2) ad n cap g all
  rb : Four w x s o ad n cap g
  act : ActB w (x + 1) kind c nn ax m cx
  res : Four w (x + 2) 0 0 none 0 0 0
  row : Slc w ax xs
  xb : xs = [] ∨ ∀ y, ax = some y → y.block ≠ b
  bx : b < x
  gr : w0.grownBy w (some b)
  sz : w0.heap.size = x

theorem DoS.grown {w0 w w' : World} {b s o g n cap : Nat} {ad : Option Addr} {all : List UInt8} {x : Nat} {kind c : UInt8} {nn : Int} {ax : Option Addr} {m cx : Nat} {xs : List UInt8} {row : Option Nat}
    (h : DoS w0 w b s o g n cap ad all x kind c nn ax m cx xs) (k : w.grownBy w' row) (hr : row = none ∨ row = some b) : DoS w0 w' b s o g n cap ad all x kind c nn ax m cx xs := by
  have hbx := h.bx
  have n0 : ∀ t, x ≤ t → some t ≠ row := fun t ht => by rcases hr with rfl | rfl <;> simp; omega
  have n1 : ∀ y, ad = some y → some y.block ≠ row := fun y hy => by
    have := h.ref.apart y hy
    rcases hr with rfl | rfl <;> simp
    exact this
  have n2 : Slc w' ax xs := by
    rcases h.xb with e | hxb
    · exact .inl e
    · refine h.row.keep k fun y hy => ?_
      have := hxb y hy
      rcases hr with rfl | rfl <;> simp
      exact this
  refine ⟨h.ref.keep k n1, h.far.keep k n1, h.rb.grown k (n0 x (Nat.le_refl _)), h.act.grown k (n0 _ (by omega)), h.res.grown k (n0 _ (by omega)), n2, h.xb, h.bx, ?_, h.sz⟩
  rcases hr with rfl | rfl
  · exact grown_trans h.gr (grown_any _ k)
  · exact grown_trans h.gr k

theorem DoS.fin {w0 w : World} {b s o g n cap : Nat} {ad : Option Addr} {all : List UInt8} {x : Nat} {kind c : UInt8} {nn : Int} {ax : Option Addr} {m cx : Nat} {xs : List UInt8}
    (h : DoS w0 w b s o g n cap ad all x kind c nn ax m cx xs) (s' o' : Int) (ad' : Option Addr) (n' cap' : Nat) (g' : Int) (wF : World)
    (hw : wF = (((w.setCell ⟨x + 2, 0, none⟩ (.int .i64 s')).setCell ⟨x + 2, 1, none⟩ (.int .i64 o')).setCell ⟨x + 2, 2, none⟩ (.slice ad' n' cap')).setCell ⟨x + 2, 3, none⟩ (.int .i64 g')) :
    Four wF (x + 2) s' o' ad' n' cap' g' ∧ w0.grownBy wF (some b) ∧ (∀ s1 o1 l1, IsBuf w b s1 o1 l1 → IsBuf wF b s1 o1 l1) ∧ (∀ ad1 n1 cap1 g1 all1, RefS w b ad1 n1 cap1 g1 all1 → RefS w (x + 2) ad1 n1 cap1 g1 all1 → RefS wF b ad1 n1 cap1 g1 all1) := by
  have hbx := h.bx
  have k : w.grownBy wF (some (x + 2)) := by
    rw [hw]
    exact grown_trans (grown_trans (grown_trans (grown_setCell w (x + 2) 0 _) (grown_setCell _ (x + 2) 1 _)) (grown_setCell _ (x + 2) 2 _)) (grown_setCell _ (x + 2) 3 _)
  refine ⟨by rw [hw]; exact h.res.put _ _ _ _ _ _, ?_, fun s1 o1 l1 hb => hb.grown k (by simp; omega), fun ad1 n1 cap1 g1 all1 h1 h2 => h1.keep k fun y hy => by have := h2.apart y hy; simpa using this⟩
  have hx : w0.heap.size ≤ x + 2 := by rw [h.sz]; omega
  rw [hw]
  exact grown_setNew (grown_setNew (grown_setNew (grown_setNew h.gr hx _ _) hx _ _) hx _ _) hx _ _

theorem DoS.start (w : World) (b s o g n cap : Nat) (ad : Option Addr) (all : List UInt8) (kind c : UInt8) (nn : Int) (ax : Option Addr) (m cx : Nat) (xs : List UInt8) (hb : b < w.heap.size) (hR : RefS w b ad n cap g all) (hx : Slc w ax xs) (hxb : xs = [] ∨ ∀ y, ax = some y → y.block ≠ b) :
    DoS w (((w.alloc (.cells #[.int .i64 s, .int .i64 o, .slice ad n cap, .int .i64 g] 72)).alloc (.cells #[.int .u8 kind.toNat, .int .u8 c.toNat, .int .i64 nn, .slice ax m cx] 57)).alloc (.cells #[.int .i64 0, .int .i64 0, .slice none 0 0, .int .i64 0] 72)) b s o g n cap ad all w.heap.size kind c nn ax m cx xs := by
  have k1 := World.grownBy_alloc w (.cells #[.int .i64 s, .int .i64 o, .slice ad n cap, .int .i64 g] 72) none
  have k2 := World.grownBy_alloc (w.alloc (.cells #[.int .i64 s, .int .i64 o, .slice ad n cap, .int .i64 g] 72)) (.cells #[.int .u8 kind.toNat, .int .u8 c.toNat, .int .i64 nn, .slice ax m cx] 57) none
  have k3 := World.grownBy_alloc ((w.alloc (.cells #[.int .i64 s, .int .i64 o, .slice ad n cap, .int .i64 g] 72)).alloc (.cells #[.int .u8 kind.toNat, .int .u8 c.toNat, .int .i64 nn, .slice ax m cx] 57)) (.cells #[.int .i64 0, .int .i64 0, .slice none 0 0, .int .i64 0] 72) none
  have k := grown_trans (grown_trans k1 k2) k3
  have z1 : (w.alloc (.cells #[.int .i64 s, .int .i64 o, .slice ad n cap, .int .i64 g] 72)).heap.size = w.heap.size + 1 := by simp
  have z2 : ((w.alloc (.cells #[.int .i64 s, .int .i64 o, .slice ad n cap, .int .i64 g] 72)).alloc (.cells #[.int .u8 kind.toNat, .int .u8 c.toNat, .int .i64 nn, .slice ax m cx] 57)).heap.size = w.heap.size + 2 := by simp
  refine ⟨hR.grown k (.inl rfl), (hR.grown k (.inl rfl)).other fun y hy => by have := hR.old y hy; omega, Four.grown (Four.grown ⟨World.alloc_heap_new _ _⟩ k2 (by simp)) k3 (by simp), ActB.grown ⟨?_⟩ k3 (by simp), ⟨?_⟩, hx.keep k (fun y hy => by simp), hxb, hb, grown_any _ k, rfl⟩
  · have := World.alloc_heap_new (w.alloc (.cells #[.int .i64 s, .int .i64 o, .slice ad n cap, .int .i64 g] 72)) (.cells #[.int .u8 kind.toNat, .int .u8 c.toNat, .int .i64 nn, .slice ax m cx] 57)
    rw [z1] at this
    exact this
  · have := World.alloc_heap_new ((w.alloc (.cells #[.int .i64 s, .int .i64 o, .slice ad n cap, .int .i64 g] 72)).alloc (.cells #[.int .u8 kind.toNat, .int .u8 c.toNat, .int .i64 nn, .slice ax m cx] 57)) (.cells #[.int .i64 0, .int .i64 0, .slice none 0 0, .int .i64 0] 72)
    rw [z2] at this
    exact this
end Go.Proofs.Ytadoobkieehajaa
