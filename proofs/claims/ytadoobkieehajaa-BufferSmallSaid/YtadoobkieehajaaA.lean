/- The buffer's cells, its abstract contents, and the contracts of its small functions. -/
import Derived.Test.YtadoobkieehajaaProg
import Derived.WalkKit
import Derived.WalkSpells
import Derived.WalkLawsBesides
import Derived.Deep.QuietTactic
import Derived.BigQuiet
import Derived.Lib.Hide
import Derived.StillTailTactics
namespace Go.Proofs.Ytadoobkieehajaa
open Go.RowKit

/-- The numbers of a buffer's fields. -/
structure Raw (w : World) (a : Nat) (r : Nat → UInt8) (size first held org : Nat) : Prop where
  blk : ∃ cs, w.heap[a]? = some (.cells cs 61 (0, 0)) ∧ cs.size = 260
  ring : ∀ i, i < 256 → w.cell? ⟨a, i, none⟩ = some (.int .u8 (r i).toNat)
  csize : w.cell? ⟨a, 256, none⟩ = some (.int .i64 size)
  cfirst : w.cell? ⟨a, 257, none⟩ = some (.int .i64 first)
  cheld : w.cell? ⟨a, 258, none⟩ = some (.int .i64 held)
  corg : w.cell? ⟨a, 259, none⟩ = some (.int .i64 org)

theorem Raw.of_block {w w' : World} {a r s f h o} (k : Raw w a r s f h o) (e : w'.heap[a]? = w.heap[a]?) : Raw w' a r s f h o := by
  have c : ∀ i, w'.cell? ⟨a, i, none⟩ = w.cell? ⟨a, i, none⟩ := fun i => World.cell?_of_block e
  exact ⟨by rw [e]; exact k.blk, fun i hi => (c i).trans (k.ring i hi), (c _).trans k.csize, (c _).trans k.cfirst, (c _).trans k.cheld, (c _).trans k.corg⟩

theorem Raw.free {w : World} {a r s f h o} (k : Raw w a r s f h o) (i : Nat) : w.frozen? ⟨a, i, none⟩ = false := by
  obtain ⟨cs, e, _⟩ := k.blk
  simp only [World.frozen?, e]
  simp

theorem Raw.lt {w : World} {a r s f h o} (k : Raw w a r s f h o) : a < w.heap.size := by
  obtain ⟨cs, e, _⟩ := k.blk
  exact (Array.getElem?_eq_some_iff.1 e).1

theorem Raw.drewN {w : World} {a r s f h o} (k : Raw w a r s f h o) (n : Nat) : Raw (w.drewN n) a r s f h o := k.of_block (by rw [World.heap_drewN])

theorem Raw.grown {w w' : World} {row} {a r s f h o} (k : Raw w a r s f h o) (g : w.grownBy w' row) (hr : some a ≠ row) : Raw w' a r s f h o := k.of_block (g.block a k.lt hr)

theorem heap_setCell_self {w : World} {a i : Nat} {cs : Array Value} {t : TypeId} {z : Nat × Nat} (v : Value) (e : w.heap[a]? = some (.cells cs t z)) :
    (w.setCell ⟨a, i, none⟩ v).heap[a]? = some (.cells (cs.setIfInBounds i v) t z) := by
  simp only [World.setCell, Array.getElem?_modify, if_true, e, Option.map_some, Option.isSome_none]
  simp

theorem cell_setCell_eq {w : World} {a i : Nat} {v u : Value} (e : w.cell? ⟨a, i, none⟩ = some u) : (w.setCell ⟨a, i, none⟩ v).cell? ⟨a, i, none⟩ = some v :=
  World.cell?_setCell_same' _ _ _ (by rw [e]; rfl)

theorem cell_setCell_ne {w : World} {a i j : Nat} {v : Value} (h : i ≠ j) : (w.setCell ⟨a, i, none⟩ v).cell? ⟨a, j, none⟩ = w.cell? ⟨a, j, none⟩ := by
  simp only [World.cell?, World.setCell, Array.getElem?_modify, if_true]
  cases hb : w.heap[a]? with
  | none => simp
  | some o => cases o <;> simp [Array.getElem?_setIfInBounds, h]

theorem cell_far {w : World} {a b i j : Nat} {v : Value} (h : b ≠ a) : (w.setCell ⟨b, i, none⟩ v).cell? ⟨a, j, none⟩ = w.cell? ⟨a, j, none⟩ :=
  World.cell?_of_block (Below.heap_setCell _ _ _ _ (fun e => h e.symm))

theorem heap_far {w : World} {a b i : Nat} {v : Value} (h : b ≠ a) : (w.setCell ⟨b, i, none⟩ v).heap[a]? = w.heap[a]? :=
  Below.heap_setCell _ _ _ _ (fun e => h e.symm)

/-- A block of two integers (a Part). -/
structure Two (w : World) (b : Nat) (x y : Int) : Prop where
  blk : w.heap[b]? = some (.cells #[.int .i64 x, .int .i64 y] 31 (0, 0))
theorem Two.c0 {w : World} {b : Nat} {x y : Int} (h : Two w b x y) : w.cell? ⟨b, 0, none⟩ = some (.int .i64 x) := by simp [World.cell?, h.blk]
theorem Two.c1 {w : World} {b : Nat} {x y : Int} (h : Two w b x y) : w.cell? ⟨b, 1, none⟩ = some (.int .i64 y) := by simp [World.cell?, h.blk]
theorem Two.free {w : World} {b : Nat} {x y : Int} (h : Two w b x y) (i : Nat) : w.frozen? ⟨b, i, none⟩ = false := by simp [World.frozen?, h.blk]
theorem Two.of_block {w w' : World} {b : Nat} {x y : Int} (h : Two w b x y) (e : w'.heap[b]? = w.heap[b]?) : Two w' b x y := ⟨e.trans h.blk⟩
theorem Two.lt {w : World} {b : Nat} {x y : Int} (h : Two w b x y) : b < w.heap.size := (Array.getElem?_eq_some_iff.1 h.blk).1
theorem Two.grown {w w' : World} {row} {b : Nat} {x y : Int} (k : Two w b x y) (g : w.grownBy w' row) (hr : some b ≠ row) : Two w' b x y := k.of_block (g.block b k.lt hr)

theorem Raw.setRing {w : World} {a r s f h o} (k : Raw w a r s f h o) (i : Nat) (hi : i < 256) (c : UInt8) :
    Raw (w.setCell ⟨a, i, none⟩ (.int .u8 c.toNat)) a (fun j => if j = i then c else r j) s f h o := by
  obtain ⟨cs, e, hs⟩ := k.blk
  refine ⟨⟨_, heap_setCell_self _ e, by simpa using hs⟩, fun j hj => ?_, ?_, ?_, ?_, ?_⟩
  · by_cases hij : j = i
    · subst hij; simp only [if_true]; exact cell_setCell_eq (k.ring _ hi)
    · rw [if_neg hij, cell_setCell_ne (fun e => hij e.symm)]; exact k.ring j hj
  · rw [cell_setCell_ne (by omega)]; exact k.csize
  · rw [cell_setCell_ne (by omega)]; exact k.cfirst
  · rw [cell_setCell_ne (by omega)]; exact k.cheld
  · rw [cell_setCell_ne (by omega)]; exact k.corg

theorem Raw.setFirst {w : World} {a r s f h o} (k : Raw w a r s f h o) (f' : Nat) : Raw (w.setCell ⟨a, 257, none⟩ (.int .i64 f')) a r s f' h o := by
  obtain ⟨cs, e, hs⟩ := k.blk
  refine ⟨⟨_, heap_setCell_self _ e, by simpa using hs⟩, fun j hj => ?_, ?_, cell_setCell_eq k.cfirst, ?_, ?_⟩
  · rw [cell_setCell_ne (by omega)]; exact k.ring j hj
  · rw [cell_setCell_ne (by omega)]; exact k.csize
  · rw [cell_setCell_ne (by omega)]; exact k.cheld
  · rw [cell_setCell_ne (by omega)]; exact k.corg

theorem Raw.setHeld {w : World} {a r s f h o} (k : Raw w a r s f h o) (h' : Nat) : Raw (w.setCell ⟨a, 258, none⟩ (.int .i64 h')) a r s f h' o := by
  obtain ⟨cs, e, hs⟩ := k.blk
  refine ⟨⟨_, heap_setCell_self _ e, by simpa using hs⟩, fun j hj => ?_, ?_, ?_, cell_setCell_eq k.cheld, ?_⟩
  · rw [cell_setCell_ne (by omega)]; exact k.ring j hj
  · rw [cell_setCell_ne (by omega)]; exact k.csize
  · rw [cell_setCell_ne (by omega)]; exact k.cfirst
  · rw [cell_setCell_ne (by omega)]; exact k.corg

theorem Raw.setOrg {w : World} {a r s f h o} (k : Raw w a r s f h o) (o' : Nat) : Raw (w.setCell ⟨a, 259, none⟩ (.int .i64 o')) a r s f h o' := by
  obtain ⟨cs, e, hs⟩ := k.blk
  refine ⟨⟨_, heap_setCell_self _ e, by simpa using hs⟩, fun j hj => ?_, ?_, ?_, ?_, cell_setCell_eq k.corg⟩
  · rw [cell_setCell_ne (by omega)]; exact k.ring j hj
  · rw [cell_setCell_ne (by omega)]; exact k.csize
  · rw [cell_setCell_ne (by omega)]; exact k.cfirst
  · rw [cell_setCell_ne (by omega)]; exact k.cheld

theorem Raw.setHeld' {w : World} {a r s f h o} (k : Raw w a r s f h o) (h' : Nat) {z : Int} (hz : z = h') : Raw (w.setCell ⟨a, 258, none⟩ (.int .i64 z)) a r s f h' o := by subst hz; exact k.setHeld h'
theorem Raw.setOrg' {w : World} {a r s f h o} (k : Raw w a r s f h o) (o' : Nat) {z : Int} (hz : z = o') : Raw (w.setCell ⟨a, 259, none⟩ (.int .i64 z)) a r s f h o' := by subst hz; exact k.setOrg o'

/-- A buffer that holds the bytes l from the offset org on. -/
structure IsBuf (w : World) (a : Nat) (size org : Nat) (l : List UInt8) : Prop where
  ex : ∃ r first, Raw w a r size first l.length org ∧ first < size ∧ ∀ i (h : i < l.length), r ((first + i) % size) = l[i]
  lo : 2 ≤ size
  hi : size ≤ 256
  fits : l.length ≤ size
  most : org + l.length ≤ 281474976710656

theorem IsBuf.of_block {w w' : World} {a s o l} (k : IsBuf w a s o l) (e : w'.heap[a]? = w.heap[a]?) : IsBuf w' a s o l := by
  obtain ⟨r, f, hr, x⟩ := k.ex
  exact ⟨⟨r, f, hr.of_block e, x⟩, k.lo, k.hi, k.fits, k.most⟩
theorem IsBuf.drewN {w : World} {a s o l} (k : IsBuf w a s o l) (n : Nat) : IsBuf (w.drewN n) a s o l := k.of_block (by rw [World.heap_drewN])
theorem IsBuf.lt {w : World} {a s o l} (k : IsBuf w a s o l) : a < w.heap.size := by obtain ⟨r, f, hr, x⟩ := k.ex; exact hr.lt
theorem IsBuf.grown {w w' : World} {row} {a s o l} (k : IsBuf w a s o l) (g : w.grownBy w' row) (hr : some a ≠ row) : IsBuf w' a s o l := k.of_block (g.block a k.lt hr)

theorem grown_trans {a b c : World} {row : Option Nat} (h : a.grownBy b row) (k : b.grownBy c row) : a.grownBy c row :=
  ⟨k.os.trans h.os, k.tape.trans h.tape, k.output.trans h.output, Nat.le_trans h.size k.size, fun i hi hr => (k.block i (Nat.lt_of_lt_of_le hi h.size) hr).trans (h.block i hi hr)⟩
theorem grown_refl (w : World) (row : Option Nat) : w.grownBy w row := ⟨rfl, rfl, rfl, Nat.le_refl _, fun _ _ _ => rfl⟩
theorem grown_drewN (w : World) (n : Nat) (row : Option Nat) : w.grownBy (w.drewN n) row :=
  ⟨by induction n generalizing w <;> simp_all [World.drewN], by rw [World.tape_drewN], by induction n generalizing w <;> simp_all [World.drewN], by rw [World.heap_drewN]; exact Nat.le_refl _, fun _ _ _ => by rw [World.heap_drewN]⟩
theorem grown_setCell (w : World) (a i : Nat) (v : Value) : w.grownBy (w.setCell ⟨a, i, none⟩ v) (some a) :=
  ⟨rfl, rfl, rfl, by simp [World.setCell], fun k _ hk => Below.heap_setCell _ _ _ _ (fun e => hk (by simp [e]))⟩

theorem grown_of_below {w w' : World} (row : Option Nat) (h : Below w.heap.size w w') : w.grownBy w' row := ⟨h.os, h.tape, h.output, h.size, fun k hk _ => h.block k hk⟩
theorem below_of_grown {w w' : World} (h : w.grownBy w' none) : Below w.heap.size w w' := ⟨h.os, h.tape, h.output, h.size, fun k hk => h.block k hk (by simp)⟩
theorem grown_any {w w' : World} (row : Option Nat) (h : w.grownBy w' none) : w.grownBy w' row := grown_of_below row (below_of_grown h)
/-- What a buffer of the call's own turns is new. -/
theorem below_grown {B : Nat} {w0 w w' : World} {row : Nat} (h : Below B w0 w) (g : w.grownBy w' (some row)) (hB : B ≤ w.heap.size) (hr : B ≤ row) : Below B w0 w' := h.grown g hB (fun k e => by cases e; exact hr)

/-- A store into a block that is new. -/
theorem grown_setNew {w x : World} {row : Option Nat} {b : Nat} (h : w.grownBy x row) (hb : w.heap.size ≤ b) (i : Nat) (v : Value) : w.grownBy (x.setCell ⟨b, i, none⟩ v) row :=
  ⟨h.os, h.tape, h.output, by simpa [World.setCell] using h.size, fun k hk hr => (Below.heap_setCell _ _ _ _ (by show k ≠ b; omega)).trans (h.block k hk hr)⟩
theorem grown_alloc {w x : World} {row : Option Nat} (h : w.grownBy x row) (o : Obj) : w.grownBy (x.alloc o) row := grown_trans h (World.grownBy_alloc _ _ _)
theorem grown_draws {w x : World} {row : Option Nat} (h : w.grownBy x row) (n : Nat) : w.grownBy (x.drewN n) row := grown_trans h (grown_drewN _ _ _)
theorem grown_drew {w x : World} {row : Option Nat} (h : w.grownBy x row) : w.grownBy x.drew row := grown_draws h 1

/-- Two places of the ring are two. -/
theorem mod_ne {f i j s : Nat} (h : i < j) (hj : j < s) : (f + i) % s ≠ (f + j) % s := by
  intro e
  have h1 : (f + j - (f + i)) % s = 0 := Nat.sub_mod_eq_zero_of_mod_eq e.symm
  have h2 : f + j - (f + i) = j - i := by omega
  rw [h2, Nat.mod_eq_of_lt (by omega)] at h1
  omega

/-- A callee that only reads, met in a region behind some draws. -/
theorem quiet_add {f : FuncId} {args : Array Value} {w : World} {k n : Nat} {v : Value}
    (h : Calls Try.prog f args (w.drewN (k + n)) fun e w' => e = .returned v ∧ ∃ m, w' = (w.drewN (k + n)).drewN m) :
    Calls Try.prog f args (w.drewN (k + n)) fun e w'' => e = .returned v ∧ ∃ m, w'' = w.drewN (k + m) :=
  h.mono fun _ _ ⟨he, m, hm⟩ => ⟨he, n + m, by rw [hm, World.drewN_drewN, Nat.add_assoc]⟩

theorem none_no (a : Nat) {s o l} (w : World) (h : IsBuf w a s o l) :
    Calls Try.prog 29 #[.pointer (some ⟨a, 0, none⟩)] w fun e w' => e = .returned (.bool false) ∧ ∃ m, w' = w.drewN m := by
  have hs : ((s : Int) == 0) = false := by have := h.lo; simp; omega
  obtain ⟨r, f, hr, x⟩ := h.ex
  have h1 := hr.csize
  clear hr x h
  go_enter Try.func29, Try.ntmps29
  go_wp2
  go_ret
  exact ⟨rfl, 0, rfl⟩

theorem none_nil (w : World) : Calls Try.prog 29 #[.pointer none] w fun e w' => e = .returned (.bool true) ∧ ∃ m, w' = w.drewN m := by
  go_enter Try.func29, Try.ntmps29
  go_wp2
  go_ret
  exact ⟨rfl, 0, rfl⟩

theorem place_raw (a : Nat) {r s f h o} (i p : Nat) (w : World) (k : Raw w a r s f h o) (hs : 2 ≤ s) (hs' : s ≤ 256) (hf : f < s) (hi : i ≤ 256) (hp : Hid (p = (f + i) % s)) :
    Calls Try.prog 32 #[.pointer (some ⟨a, 0, none⟩), .int .i64 i] w fun e w' => e = .returned (.int .i64 p) ∧ ∃ k, w' = w.drewN k := by
  have h1 := k.csize
  have h2 := k.cfirst
  clear k
  go_enter Try.func32, Try.ntmps32
  go_wp2
  go_quiet (fail)
  go_wp2
  go_ret
  exact ⟨by rw [hp.out]; rfl, _, rfl⟩

theorem full_any (a : Nat) {s o l} (w : World) (h : IsBuf w a s o l) :
    Calls Try.prog 14 #[.pointer (some ⟨a, 0, none⟩)] w fun e w' => e = .returned (.bool ((l.length : Int) == s)) ∧ ∃ m, w' = w.drewN m := by
  obtain ⟨r, f, hr, x⟩ := h.ex
  have h1 := hr.csize
  have h2 := hr.cheld
  clear hr x
  go_enter Try.func14, Try.ntmps14
  go_wp2_with fail
  go_quiet ((go_at_call 29; exact Calls.quiet_of (none_no _ _ (h.drewN _))))
  go_wp2
  go_ret
  exact ⟨rfl, _, rfl⟩

theorem full_nil (w : World) : Calls Try.prog 14 #[.pointer none] w fun e w' => e = .returned (.bool false) ∧ ∃ m, w' = w.drewN m := by
  go_enter Try.func14, Try.ntmps14
  go_wp2_with fail
  go_quiet ((go_at_call 29; exact Calls.quiet_of (none_nil _)))
  go_wp2
  go_ret
  exact ⟨rfl, _, rfl⟩

end Go.Proofs.Ytadoobkieehajaa
