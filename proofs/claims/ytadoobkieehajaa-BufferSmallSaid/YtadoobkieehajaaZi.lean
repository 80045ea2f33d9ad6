/- The walk of BufferSmall. -/
import Derived.Test.YtadoobkieehajaaZk
import Derived.Deep.DeepCutAuto
import Derived.IntWalk
import Derived.Lib.SlBytesConst
namespace Go.Proofs.Ytadoobkieehajaa
open Go.RowKit Go.Shelf

theorem ActAt.lit {w : World} {blk off : Nat} {cs : Array Value} {t : TypeId} (h : w.heap[blk]? = some (.cells cs t)) {kind c : UInt8} {nn : Int} {ax : Option Addr} {m cx : Nat} {xs : List UInt8}
    (e0 : cs[off]? = some (.int .u8 kind.toNat)) (e1 : cs[off + 1]? = some (.int .u8 c.toNat)) (e2 : cs[off + 2]? = some (.int .i64 nn)) (e3 : cs[off + 3]? = some (.slice ax m cx)) (hx : Slc w ax xs) (hl : xs.length = m) (hf : m ≤ cx) : ActAt w blk off kind c nn ax m cx xs :=
  ⟨(cell_of_block h).trans e0, (cell_of_block h).trans e1, (cell_of_block h).trans e2, (cell_of_block h).trans e3, hx, hl, hf⟩

theorem Slc.two {w : World} {blk : Nat} {x y : UInt8} {t : TypeId} {z : Nat × Nat} (h : w.heap[blk]? = some (.cells #[.int .u8 x.toNat, .int .u8 y.toNat] t z)) : Slc w (some ⟨blk, 0, none⟩) [x, y] :=
  .inr ⟨blk, 0, rfl, (Array.getElem?_eq_some_iff.1 h).1, fun j hj => by
    rw [cell_of_block h]
    match j, hj with
    | 0, _ => rfl
    | 1, _ => rfl⟩

theorem acts_keep {w w' : World} {al : Option Addr} {len : Nat} (h : ActsAt w al len) (k : Below w.heap.size w w') : ActsAt w' al len := by
  rcases h with h | ⟨blk, off, rfl, hb, hc⟩
  · exact .inl h
  · refine .inr ⟨blk, off, rfl, Nat.lt_of_lt_of_le hb k.size, fun i hi => ?_⟩
    obtain ⟨kind, c, nn, ax, m, cx, xs, ha, hm⟩ := hc i hi
    exact ⟨kind, c, nn, ax, m, cx, xs, ha.below k hb, hm⟩

theorem some_acts (w : World) : ActsAt ((w.alloc (.cells #[.int .u8 97, .int .u8 98] 5 (2, 3))).alloc (.cells #[.int .u8 0, .int .u8 97, .int .i64 0, .slice none 0 0, .int .u8 0, .int .u8 98, .int .i64 0, .slice none 0 0, .int .u8 4, .int .u8 0, .int .i64 1, .slice none 0 0, .int .u8 4, .int .u8 0, .int .i64 2, .slice none 0 0, .int .u8 5, .int .u8 0, .int .i64 0, .slice none 0 0, .int .u8 6, .int .u8 0, .int .i64 0, .slice (some ⟨w.heap.size, 0, none⟩) 2 2] 57)) (some ⟨w.heap.size + 1, 0, none⟩) 6 := by
  have h0 := World.alloc_heap_new (w.alloc (.cells #[.int .u8 97, .int .u8 98] 5 (2, 3))) (.cells #[.int .u8 0, .int .u8 97, .int .i64 0, .slice none 0 0, .int .u8 0, .int .u8 98, .int .i64 0, .slice none 0 0, .int .u8 4, .int .u8 0, .int .i64 1, .slice none 0 0, .int .u8 4, .int .u8 0, .int .i64 2, .slice none 0 0, .int .u8 5, .int .u8 0, .int .i64 0, .slice none 0 0, .int .u8 6, .int .u8 0, .int .i64 0, .slice (some ⟨w.heap.size, 0, none⟩) 2 2] 57)
  have hz : (w.alloc (.cells #[.int .u8 97, .int .u8 98] 5 (2, 3))).heap.size = w.heap.size + 1 := by simp
  rw [hz] at h0
  have g1 := World.grownBy_alloc (w.alloc (.cells #[.int .u8 97, .int .u8 98] 5 (2, 3))) (.cells #[.int .u8 0, .int .u8 97, .int .i64 0, .slice none 0 0, .int .u8 0, .int .u8 98, .int .i64 0, .slice none 0 0, .int .u8 4, .int .u8 0, .int .i64 1, .slice none 0 0, .int .u8 4, .int .u8 0, .int .i64 2, .slice none 0 0, .int .u8 5, .int .u8 0, .int .i64 0, .slice none 0 0, .int .u8 6, .int .u8 0, .int .i64 0, .slice (some ⟨w.heap.size, 0, none⟩) 2 2] 57) none
  have h1 := World.alloc_heap_new w (.cells #[.int .u8 97, .int .u8 98] 5 (2, 3))
  have h2 := (g1.block w.heap.size (by simp) (by simp)).trans h1
  generalize (w.alloc (.cells #[.int .u8 97, .int .u8 98] 5 (2, 3))).alloc _ = w2 at h0 h2 ⊢
  have hs : Slc w2 (some ⟨w.heap.size, 0, none⟩) [97, 98] := Slc.two (x := 97) (y := 98) h2
  refine .inr ⟨w.heap.size + 1, 0, rfl, (Array.getElem?_eq_some_iff.1 h0).1, fun i hi => ?_⟩
  match i, hi with
  | 0, _ => exact ⟨0, 97, 0, none, 0, 0, [], ActAt.lit h0 rfl rfl rfl rfl (.inl rfl) rfl (Nat.le_refl _), by omega⟩
  | 1, _ => exact ⟨0, 98, 0, none, 0, 0, [], ActAt.lit h0 rfl rfl rfl rfl (.inl rfl) rfl (Nat.le_refl _), by omega⟩
  | 2, _ => exact ⟨4, 0, 1, none, 0, 0, [], ActAt.lit h0 rfl rfl rfl rfl (.inl rfl) rfl (Nat.le_refl _), by omega⟩
  | 3, _ => exact ⟨4, 0, 2, none, 0, 0, [], ActAt.lit h0 rfl rfl rfl rfl (.inl rfl) rfl (Nat.le_refl _), by omega⟩
  | 4, _ => exact ⟨5, 0, 0, none, 0, 0, [], ActAt.lit h0 rfl rfl rfl rfl (.inl rfl) rfl (Nat.le_refl _), by omega⟩
  | 5, _ => exact ⟨6, 0, 0, _, 2, 2, [97, 98], ActAt.lit h0 rfl rfl rfl rfl hs rfl (Nat.le_refl _), by omega⟩

theorem six_ways (j : Nat) (hj : j < 46656) : ∃ q0 d1 q1 d2 q2 d3 q3 d4 q4 q5 : Nat, ((q0 < 6 ∧ q1 < 6 ∧ q2 < 6) ∧ (q3 < 6 ∧ q4 < 6 ∧ q5 < 6)) ∧
    ((j : Int).tmod 6 = q0 ∧ (j : Int).tdiv 6 = d1 ∧ (d1 : Int).tmod 6 = q1) ∧ ((j : Int).tdiv 36 = d2 ∧ (d2 : Int).tmod 6 = q2) ∧
    ((j : Int).tdiv 216 = d3 ∧ (d3 : Int).tmod 6 = q3) ∧ ((j : Int).tdiv 1296 = d4 ∧ (d4 : Int).tmod 6 = q4) ∧ (j : Int).tdiv 7776 = q5 ∧
    (IntKind.i64.wrap (d1 : Int) = d1 ∧ IntKind.i64.wrap (d2 : Int) = d2 ∧ IntKind.i64.wrap (d3 : Int) = d3 ∧ IntKind.i64.wrap (d4 : Int) = d4 ∧ IntKind.i64.wrap (q5 : Int) = q5) := by
  have R : ∀ a b : Nat, (a : Int).tmod b = (a % b : Nat) := fun a b => by
    rw [Int.tmod_eq_emod_of_nonneg (by omega), ← Int.natCast_emod]
  have D : ∀ a b : Nat, (a : Int).tdiv b = (a / b : Nat) := fun a b => by
    rw [Int.tdiv_eq_ediv_of_nonneg (by omega), ← Int.natCast_ediv]
  have W : ∀ a : Nat, a < 100000 → IntKind.i64.wrap (a : Int) = a := fun a h => IntWalk.i64_in _ (by omega)
  exact ⟨j % 6, j / 6, j / 6 % 6, j / 36, j / 36 % 6, j / 216, j / 216 % 6, j / 1296, j / 1296 % 6, j / 7776, ⟨⟨by omega, by omega, by omega⟩, by omega, by omega, by omega⟩,
    ⟨R j 6, D j 6, R (j / 6) 6⟩, ⟨D j 36, R (j / 36) 6⟩, ⟨D j 216, R (j / 216) 6⟩, ⟨D j 1296, R (j / 1296) 6⟩, D j 7776, W _ (by omega), W _ (by omega), W _ (by omega), W _ (by omega), W _ (by omega)⟩

theorem acts_of_six {w : World} {blk : Nat} {cs : Array Value} {t : TypeId} (h : w.heap[blk]? = some (.cells cs t)) (n : Nat)
    (he : ∀ i, i < n → ∃ (kind c : UInt8) (nn : Int) (ax : Option Addr) (m cx : Nat) (xs : List UInt8), cs[i * 4]? = some (.int .u8 kind.toNat) ∧ cs[i * 4 + 1]? = some (.int .u8 c.toNat) ∧ cs[i * 4 + 2]? = some (.int .i64 nn) ∧ cs[i * 4 + 3]? = some (.slice ax m cx) ∧ Slc w ax xs ∧ xs.length = m ∧ m ≤ cx ∧ m ≤ 1000) : ActsAt w (some ⟨blk, 0, none⟩) n := by
  refine .inr ⟨blk, 0, rfl, (Array.getElem?_eq_some_iff.1 h).1, fun i hi => ?_⟩
  obtain ⟨kind, c, nn, ax, m, cx, xs, e0, e1, e2, e3, hx, hl, hf, hm⟩ := he i hi
  rw [Nat.zero_add]
  exact ⟨kind, c, nn, ax, m, cx, xs, ActAt.lit h e0 e1 e2 e3 hx hl hf, hm⟩

theorem eight_acts (w : World) (nn : Int) : ActsAt ((w.alloc (.cells #[.int .u8 2] 5)).alloc (.cells #[.int .u8 0, .int .u8 1, .int .i64 0, .slice none 0 0, .int .u8 0, .int .u8 2, .int .i64 0, .slice none 0 0, .int .u8 0, .int .u8 3, .int .i64 0, .slice none 0 0, .int .u8 4, .int .u8 0, .int .i64 nn, .slice none 0 0, .int .u8 6, .int .u8 0, .int .i64 nn, .slice none 0 0, .int .u8 6, .int .u8 0, .int .i64 nn, .slice (some ⟨w.heap.size, 0, none⟩) 1 1, .int .u8 5, .int .u8 0, .int .i64 0, .slice none 0 0, .int .u8 0, .int .u8 4, .int .i64 0, .slice none 0 0] 57)) (some ⟨w.heap.size + 1, 0, none⟩) 8 := by
  have h0 := World.alloc_heap_new (w.alloc (.cells #[.int .u8 2] 5)) (.cells #[.int .u8 0, .int .u8 1, .int .i64 0, .slice none 0 0, .int .u8 0, .int .u8 2, .int .i64 0, .slice none 0 0, .int .u8 0, .int .u8 3, .int .i64 0, .slice none 0 0, .int .u8 4, .int .u8 0, .int .i64 nn, .slice none 0 0, .int .u8 6, .int .u8 0, .int .i64 nn, .slice none 0 0, .int .u8 6, .int .u8 0, .int .i64 nn, .slice (some ⟨w.heap.size, 0, none⟩) 1 1, .int .u8 5, .int .u8 0, .int .i64 0, .slice none 0 0, .int .u8 0, .int .u8 4, .int .i64 0, .slice none 0 0] 57)
  have hz : (w.alloc (.cells #[.int .u8 2] 5)).heap.size = w.heap.size + 1 := by simp
  rw [hz] at h0
  have g1 := World.grownBy_alloc (w.alloc (.cells #[.int .u8 2] 5)) (.cells #[.int .u8 0, .int .u8 1, .int .i64 0, .slice none 0 0, .int .u8 0, .int .u8 2, .int .i64 0, .slice none 0 0, .int .u8 0, .int .u8 3, .int .i64 0, .slice none 0 0, .int .u8 4, .int .u8 0, .int .i64 nn, .slice none 0 0, .int .u8 6, .int .u8 0, .int .i64 nn, .slice none 0 0, .int .u8 6, .int .u8 0, .int .i64 nn, .slice (some ⟨w.heap.size, 0, none⟩) 1 1, .int .u8 5, .int .u8 0, .int .i64 0, .slice none 0 0, .int .u8 0, .int .u8 4, .int .i64 0, .slice none 0 0] 57) none
  have h1 := World.alloc_heap_new w (.cells #[.int .u8 2] 5)
  have h2 := (g1.block w.heap.size (by simp) (by simp)).trans h1
  generalize (w.alloc (.cells #[.int .u8 2] 5)).alloc _ = w2 at h0 h2 ⊢
  have hs : Slc w2 (some ⟨w.heap.size, 0, none⟩) [2] := .inr ⟨w.heap.size, 0, rfl, (Array.getElem?_eq_some_iff.1 h2).1, fun j hj => by
    rw [cell_of_block h2]
    match j, hj with
    | 0, _ => rfl⟩
  refine acts_of_six h0 8 fun i hi => ?_
  match i, hi with
  | 0, _ => exact ⟨0, 1, 0, none, 0, 0, [], rfl, rfl, rfl, rfl, .inl rfl, rfl, Nat.le_refl _, by omega⟩
  | 1, _ => exact ⟨0, 2, 0, none, 0, 0, [], rfl, rfl, rfl, rfl, .inl rfl, rfl, Nat.le_refl _, by omega⟩
  | 2, _ => exact ⟨0, 3, 0, none, 0, 0, [], rfl, rfl, rfl, rfl, .inl rfl, rfl, Nat.le_refl _, by omega⟩
  | 3, _ => exact ⟨4, 0, nn, none, 0, 0, [], rfl, rfl, rfl, rfl, .inl rfl, rfl, Nat.le_refl _, by omega⟩
  | 4, _ => exact ⟨6, 0, nn, none, 0, 0, [], rfl, rfl, rfl, rfl, .inl rfl, rfl, Nat.le_refl _, by omega⟩
  | 5, _ => exact ⟨6, 0, nn, _, 1, 1, [2], rfl, rfl, rfl, rfl, hs, rfl, Nat.le_refl _, by omega⟩
  | 6, _ => exact ⟨5, 0, 0, none, 0, 0, [], rfl, rfl, rfl, rfl, .inl rfl, rfl, Nat.le_refl _, by omega⟩
  | 7, _ => exact ⟨0, 4, 0, none, 0, 0, [], rfl, rfl, rfl, rfl, .inl rfl, rfl, Nat.le_refl _, by omega⟩

theorem Try.info57 : (Try.prog.info? 57).map (fun i => (i.zero, i.size, i.bytes)) = some (some (.agg #[.int .u8 0, .int .u8 0, .int .i64 0, .slice none 0 0]), 4, 40) := by kernel_rfl
theorem under55 : Try.prog.underlying 55 = some (.slice 57) := by kernel_rfl

theorem cells_new (w : World) (cs : List Value) (t : TypeId) : ∀ j u, cs[j]? = some u → (w.alloc (.cells cs.toArray t)).cell? ((⟨w.heap.size, 0, none⟩ : Addr).add j) = some u := by
  intro j u h
  rw [Go.WideShapes.add_plain, Nat.zero_add, cell_of_block (World.alloc_heap_new _ _)]
  simpa using h

/-- A row of acts without bytes. -/
structure ActRow (xs : List Value) (n : Nat) : Prop where
  len : xs.length = n * 4
  each : ∀ i, i < n → ∃ (kind c : UInt8) (nn : Int), xs[i * 4]? = some (.int .u8 kind.toNat) ∧ xs[i * 4 + 1]? = some (.int .u8 c.toNat) ∧ xs[i * 4 + 2]? = some (.int .i64 nn) ∧ xs[i * 4 + 3]? = some (.slice none 0 0)
theorem ActRow.nil : ActRow [] 0 := ⟨rfl, fun i hi => by omega⟩
theorem ActRow.snoc {xs : List Value} {n : Nat} (h : ActRow xs n) (kind c : UInt8) (nn : Int) : ActRow (xs ++ [.int .u8 kind.toNat, .int .u8 c.toNat, .int .i64 nn, .slice none 0 0]) (n + 1) := by
  have hl := h.len
  refine ⟨by simp [hl]; omega, fun i hi => ?_⟩
  by_cases e : i < n
  · obtain ⟨k, d, mm, h0, h1, h2, h3⟩ := h.each i e
    exact ⟨k, d, mm, by rw [List.getElem?_append_left (by omega)]; exact h0, by rw [List.getElem?_append_left (by omega)]; exact h1, by rw [List.getElem?_append_left (by omega)]; exact h2, by rw [List.getElem?_append_left (by omega)]; exact h3⟩
  · obtain rfl : i = n := by omega
    refine ⟨kind, c, nn, ?_, ?_, ?_, ?_⟩
    all_goals (rw [List.getElem?_append_right (by omega), hl])
    · rw [show i * 4 - i * 4 = 0 by omega]; rfl
    · rw [show i * 4 + 1 - i * 4 = 1 by omega]; rfl
    · rw [show i * 4 + 2 - i * 4 = 2 by omega]; rfl
    · rw [show i * 4 + 3 - i * 4 = 3 by omega]; rfl

theorem acts_of_owns {w : World} {base n cp : Nat} {al : Option Addr} {xs : List Value} (h : w.ownsRow base 57 4 (.slice al n cp) n xs)
    (he : ∀ i, i < n → ∃ (kind c : UInt8) (nn : Int) (ax : Option Addr) (m cx : Nat) (bs : List UInt8), xs[i * 4]? = some (.int .u8 kind.toNat) ∧ xs[i * 4 + 1]? = some (.int .u8 c.toNat) ∧ xs[i * 4 + 2]? = some (.int .i64 nn) ∧ xs[i * 4 + 3]? = some (.slice ax m cx) ∧ Slc w ax bs ∧ bs.length = m ∧ m ≤ cx ∧ m ≤ 1000) : ActsAt w al n := by
  rcases h.2 with ⟨_, h0⟩ | ⟨g, cap, cur, hv, hb, hh, h1, h2, h3, h4⟩
  · exact .inl h0
  · simp only [Value.slice.injEq] at hv
    obtain ⟨rfl, _, _⟩ := hv
    refine acts_of_six hh n fun i hi => ?_
    obtain ⟨kind, c, nn, ax, m, cx, bs, e0, e1, e2, e3, r⟩ := he i hi
    have key : ∀ t u, xs[t]? = some u → t < n * 4 → cur[t]? = some u := fun t u hu ht => by
      rw [← h4, List.getElem?_take_of_lt ht] at hu
      simpa using hu
    exact ⟨kind, c, nn, ax, m, cx, bs, key _ _ e0 (by omega), key _ _ e1 (by omega), key _ _ e2 (by omega), key _ _ e3 (by omega), r⟩

set_option maxRecDepth 100000 in
set_option maxHeartbeats 12000000 in
theorem small_walk (w : World) : Calls Try.prog 9 #[] w fun e w' => e = .returned (.bool true) ∧ Below w.heap.size w w' := by
  have hcv := Lib.run_convert_bytes_const w 23 5 #[.int .u8 97, .int .u8 98] 2 2 Try.underlying23 Try.underlying5
  have hA := some_acts w
  go_enter Try.func9, Try.ntmps9
  go_upto_region 2 with fail
  clear hcv
  have B2 := (Below.refl w.heap.size w).alloc (Nat.le_refl _) (.cells #[.int .u8 97, .int .u8 98] 5 (2, 3))
  replace B2 := B2.alloc B2.size (.cells #[.int .u8 0, .int .u8 97, .int .i64 0, .slice none 0 0, .int .u8 0, .int .u8 98, .int .i64 0, .slice none 0 0, .int .u8 4, .int .u8 0, .int .i64 1, .slice none 0 0, .int .u8 4, .int .u8 0, .int .i64 2, .slice none 0 0, .int .u8 5, .int .u8 0, .int .i64 0, .slice none 0 0, .int .u8 6, .int .u8 0, .int .i64 0, .slice (some ⟨w.heap.size, 0, none⟩) 2 2] 57)
  generalize (w.alloc (.cells #[.int .u8 97, .int .u8 98] 5 (2, 3))).alloc (.cells #[.int .u8 0, .int .u8 97, .int .i64 0, .slice none 0 0, .int .u8 0, .int .u8 98, .int .i64 0, .slice none 0 0, .int .u8 4, .int .u8 0, .int .i64 1, .slice none 0 0, .int .u8 4, .int .u8 0, .int .i64 2, .slice none 0 0, .int .u8 5, .int .u8 0, .int .i64 0, .slice none 0 0, .int .u8 6, .int .u8 0, .int .i64 0, .slice (some ⟨w.heap.size, 0, none⟩) 2 2] 57) = w2 at B2 hA ⊢
  obtain h0 | ⟨sb, so, hsa, hsb, hacts⟩ := hA
  · omega
  simp only [Option.some.injEq, Addr.mk.injEq] at hsa
  obtain ⟨rfl, rfl, _⟩ := hsa
  generalize w.heap.size + 1 = sb at hsb hacts ⊢
  go_wp2_with fail
  go_loopw [29] (fun v wr => ∃ j : Nat, j ≤ 46656 ∧ v = .int .i64 j ∧ Below w2.heap.size w2 wr)
    (fun v _ => 46656 - (intOf v).toNat)
  case atStart => exact ⟨0, Nat.zero_le _, rfl, Below.refl _ _⟩
  case round =>
    obtain ⟨j, hj, rfl, hBr⟩ := hrel
    have HACTS := Lib.hid hacts
    clear hacts
    by_cases hlt : j < 46656
    · have hlt' : decide ((j : Int) < 46656) = true := decide_eq_true (by omega)
      have HLT := Lib.hid hlt
      have HJ := Lib.hid hj
      clear hlt hj
      have hjb : (j : Int) ≤ 46656 := by have := HJ.out; omega
      cases hm : ((j : Int) % 5 != 0) with
      | true =>
        go_wp2_with fail
        go_roundw
        case rel => exact ⟨j + 1, by have := HLT.out; omega, by go_num, hBr⟩
        case measure => have := HLT.out; simp [intOf]; omega
      | false =>
        go_upto_region 6 with fail
        obtain ⟨q0, d1, q1, d2, q2, d3, q3, d4, q4, q5, ⟨⟨l0, l1, l2⟩, l3, l4, l5⟩, ⟨r0, s1, r1⟩, ⟨s2, r2⟩, ⟨s3, r3⟩, ⟨s4, r4⟩, r5, y1, y2, y3, y4, y5⟩ := six_ways j HLT.out
        have i0 : (q0 : Int) < 6 := by omega
        have i1 : (q1 : Int) < 6 := by omega
        have i2 : (q2 : Int) < 6 := by omega
        have i3 : (q3 : Int) < 6 := by omega
        have i4 : (q4 : Int) < 6 := by omega
        have i5 : (q5 : Int) < 6 := by omega
        obtain ⟨k0, c0, n0, ax0, m0, cx0, xs0, a0, u0⟩ := HACTS.out q0 l0
        replace a0 := a0.below hBr hsb
        rw [Nat.zero_add] at a0
        obtain ⟨k1, c1, n1, ax1, m1, cx1, xs1, a1, u1⟩ := HACTS.out q1 l1
        replace a1 := a1.below hBr hsb
        rw [Nat.zero_add] at a1
        obtain ⟨k2, c2, n2, ax2, m2, cx2, xs2, a2, u2⟩ := HACTS.out q2 l2
        replace a2 := a2.below hBr hsb
        rw [Nat.zero_add] at a2
        obtain ⟨k3, c3, n3, ax3, m3, cx3, xs3, a3, u3⟩ := HACTS.out q3 l3
        replace a3 := a3.below hBr hsb
        rw [Nat.zero_add] at a3
        obtain ⟨k4, c4, n4, ax4, m4, cx4, xs4, a4, u4⟩ := HACTS.out q4 l4
        replace a4 := a4.below hBr hsb
        rw [Nat.zero_add] at a4
        obtain ⟨k5, c5, n5, ax5, m5, cx5, xs5, a5, u5⟩ := HACTS.out q5 l5
        replace a5 := a5.below hBr hsb
        rw [Nat.zero_add] at a5
        clear l0 l1 l2 l3 l4 l5
        have gd := grown_drewN wr 1 none
        have hsz := Nat.lt_of_lt_of_le hsb hBr.size
        replace a0 := a0.below (below_of_grown gd) hsz
        have A0 := Lib.hid a0
        have U0 := Lib.hid u0
        clear a0 u0
        replace a1 := a1.below (below_of_grown gd) hsz
        have A1 := Lib.hid a1
        have U1 := Lib.hid u1
        clear a1 u1
        replace a2 := a2.below (below_of_grown gd) hsz
        have A2 := Lib.hid a2
        have U2 := Lib.hid u2
        clear a2 u2
        replace a3 := a3.below (below_of_grown gd) hsz
        have A3 := Lib.hid a3
        have U3 := Lib.hid u3
        clear a3 u3
        replace a4 := a4.below (below_of_grown gd) hsz
        have A4 := Lib.hid a4
        have U4 := Lib.hid u4
        clear a4 u4
        replace a5 := a5.below (below_of_grown gd) hsz
        have A5 := Lib.hid a5
        have U5 := Lib.hid u5
        clear a5 u5
        have B8 := hBr.trans ((below_of_grown gd).mono hBr.size)
        replace hsz := Nat.lt_of_lt_of_le hsz gd.size
        clear gd
        refine region_mix [(0, .inl none), (1, .inl none), (2, .inl none), (3, .inl none), (4, .inl (some 0)), (5, .inl none), (6, .inl none), (7, .inl none), (8, .inl none), (9, .inl none), (10, .inl (some 0)), (11, .inl none), (12, .inl none), (13, .inl none), (14, .inl none), (15, .inl none), (16, .inl (some 0)), (17, .inl none), (18, .inl none), (19, .inl none), (20, .inl none), (21, .inl none), (22, .inl (some 0)), (23, .inl none), (24, .inl none), (25, .inl none), (26, .inl none), (27, .inl none), (28, .inl (some 0)), (29, .inl none), (30, .inl none), (31, .inl none), (32, .inl none), (33, .inl (some 0)), (34, .inr [0]), (35, .inl none)]
          (fun _ W => W.heap[sb]? = (wr.drewN 1).heap[sb]?) (by kernel_rfl) (by kernel_rfl) (fun _ => rfl) ?_
        simp only [pickK, List.filterMap_cons, List.filterMap_nil, List.getElem?_toArray, List.getElem?_cons_zero, List.getElem?_cons_succ, Option.map_some]
        generalize wr.drewN 1 = w8 at A0 A1 A2 A3 A4 A5 B8 hsz ⊢
        refine mix_free (fun K hK => ?_)
        go_simp
        refine hK _ ?_
        clear hK K
        refine mix_free (fun K hK => ?_)
        go_simp
        refine hK _ ?_
        clear hK K
        refine mix_free (fun K hK => ?_)
        go_simp
        refine hK _ ?_
        clear hK K
        refine mix_free (fun K hK => ?_)
        go_simp
        refine hK _ ?_
        clear hK K
        refine mix_val (.agg #[.int .u8 k0.toNat, .int .u8 c0.toNat, .int .i64 n0, .slice ax0 m0 cx0]) (by rfl) (fun w' hw' => ?_) (fun K hK => ?_)
        · have p0 := (World.cell?_of_block (a := ⟨sb, q0 * 4, none⟩) hw').trans A0.out.c0
          have p1 := (World.cell?_of_block (a := ⟨sb, q0 * 4 + 1, none⟩) hw').trans A0.out.c1
          have p2 := (World.cell?_of_block (a := ⟨sb, q0 * 4 + 2, none⟩) hw').trans A0.out.c2
          have p3 := (World.cell?_of_block (a := ⟨sb, q0 * 4 + 3, none⟩) hw').trans A0.out.c3
          clear hw'
          go_simp
        go_simp
        refine hK _ ?_
        clear hK K
        refine mix_free (fun K hK => ?_)
        go_simp
        refine hK _ ?_
        clear hK K
        refine mix_free (fun K hK => ?_)
        go_simp
        refine hK _ ?_
        clear hK K
        refine mix_free (fun K hK => ?_)
        go_simp
        refine hK _ ?_
        clear hK K
        refine mix_free (fun K hK => ?_)
        go_simp
        refine hK _ ?_
        clear hK K
        refine mix_free (fun K hK => ?_)
        go_simp
        refine hK _ ?_
        clear hK K
        refine mix_val (.agg #[.int .u8 k1.toNat, .int .u8 c1.toNat, .int .i64 n1, .slice ax1 m1 cx1]) (by rfl) (fun w' hw' => ?_) (fun K hK => ?_)
        · have p0 := (World.cell?_of_block (a := ⟨sb, q1 * 4, none⟩) hw').trans A1.out.c0
          have p1 := (World.cell?_of_block (a := ⟨sb, q1 * 4 + 1, none⟩) hw').trans A1.out.c1
          have p2 := (World.cell?_of_block (a := ⟨sb, q1 * 4 + 2, none⟩) hw').trans A1.out.c2
          have p3 := (World.cell?_of_block (a := ⟨sb, q1 * 4 + 3, none⟩) hw').trans A1.out.c3
          clear hw'
          go_simp
        go_simp
        refine hK _ ?_
        clear hK K
        refine mix_free (fun K hK => ?_)
        go_simp
        refine hK _ ?_
        clear hK K
        refine mix_free (fun K hK => ?_)
        go_simp
        refine hK _ ?_
        clear hK K
        refine mix_free (fun K hK => ?_)
        go_simp
        refine hK _ ?_
        clear hK K
        refine mix_free (fun K hK => ?_)
        go_simp
        refine hK _ ?_
        clear hK K
        refine mix_free (fun K hK => ?_)
        go_simp
        refine hK _ ?_
        clear hK K
        refine mix_val (.agg #[.int .u8 k2.toNat, .int .u8 c2.toNat, .int .i64 n2, .slice ax2 m2 cx2]) (by rfl) (fun w' hw' => ?_) (fun K hK => ?_)
        · have p0 := (World.cell?_of_block (a := ⟨sb, q2 * 4, none⟩) hw').trans A2.out.c0
          have p1 := (World.cell?_of_block (a := ⟨sb, q2 * 4 + 1, none⟩) hw').trans A2.out.c1
          have p2 := (World.cell?_of_block (a := ⟨sb, q2 * 4 + 2, none⟩) hw').trans A2.out.c2
          have p3 := (World.cell?_of_block (a := ⟨sb, q2 * 4 + 3, none⟩) hw').trans A2.out.c3
          clear hw'
          go_simp
        go_simp
        refine hK _ ?_
        clear hK K
        refine mix_free (fun K hK => ?_)
        go_simp
        refine hK _ ?_
        clear hK K
        refine mix_free (fun K hK => ?_)
        go_simp
        refine hK _ ?_
        clear hK K
        refine mix_free (fun K hK => ?_)
        go_simp
        refine hK _ ?_
        clear hK K
        refine mix_free (fun K hK => ?_)
        go_simp
        refine hK _ ?_
        clear hK K
        refine mix_free (fun K hK => ?_)
        go_simp
        refine hK _ ?_
        clear hK K
        refine mix_val (.agg #[.int .u8 k3.toNat, .int .u8 c3.toNat, .int .i64 n3, .slice ax3 m3 cx3]) (by rfl) (fun w' hw' => ?_) (fun K hK => ?_)
        · have p0 := (World.cell?_of_block (a := ⟨sb, q3 * 4, none⟩) hw').trans A3.out.c0
          have p1 := (World.cell?_of_block (a := ⟨sb, q3 * 4 + 1, none⟩) hw').trans A3.out.c1
          have p2 := (World.cell?_of_block (a := ⟨sb, q3 * 4 + 2, none⟩) hw').trans A3.out.c2
          have p3 := (World.cell?_of_block (a := ⟨sb, q3 * 4 + 3, none⟩) hw').trans A3.out.c3
          clear hw'
          go_simp
        go_simp
        refine hK _ ?_
        clear hK K
        refine mix_free (fun K hK => ?_)
        go_simp
        refine hK _ ?_
        clear hK K
        refine mix_free (fun K hK => ?_)
        go_simp
        refine hK _ ?_
        clear hK K
        refine mix_free (fun K hK => ?_)
        go_simp
        refine hK _ ?_
        clear hK K
        refine mix_free (fun K hK => ?_)
        go_simp
        refine hK _ ?_
        clear hK K
        refine mix_free (fun K hK => ?_)
        go_simp
        refine hK _ ?_
        clear hK K
        refine mix_val (.agg #[.int .u8 k4.toNat, .int .u8 c4.toNat, .int .i64 n4, .slice ax4 m4 cx4]) (by rfl) (fun w' hw' => ?_) (fun K hK => ?_)
        · have p0 := (World.cell?_of_block (a := ⟨sb, q4 * 4, none⟩) hw').trans A4.out.c0
          have p1 := (World.cell?_of_block (a := ⟨sb, q4 * 4 + 1, none⟩) hw').trans A4.out.c1
          have p2 := (World.cell?_of_block (a := ⟨sb, q4 * 4 + 2, none⟩) hw').trans A4.out.c2
          have p3 := (World.cell?_of_block (a := ⟨sb, q4 * 4 + 3, none⟩) hw').trans A4.out.c3
          clear hw'
          go_simp
        go_simp
        refine hK _ ?_
        clear hK K
        refine mix_free (fun K hK => ?_)
        go_simp
        refine hK _ ?_
        clear hK K
        refine mix_free (fun K hK => ?_)
        go_simp
        refine hK _ ?_
        clear hK K
        refine mix_free (fun K hK => ?_)
        go_simp
        refine hK _ ?_
        clear hK K
        refine mix_free (fun K hK => ?_)
        go_simp
        refine hK _ ?_
        clear hK K
        refine mix_val (.agg #[.int .u8 k5.toNat, .int .u8 c5.toNat, .int .i64 n5, .slice ax5 m5 cx5]) (by rfl) (fun w' hw' => ?_) (fun K hK => ?_)
        · have p0 := (World.cell?_of_block (a := ⟨sb, q5 * 4, none⟩) hw').trans A5.out.c0
          have p1 := (World.cell?_of_block (a := ⟨sb, q5 * 4 + 1, none⟩) hw').trans A5.out.c1
          have p2 := (World.cell?_of_block (a := ⟨sb, q5 * 4 + 2, none⟩) hw').trans A5.out.c2
          have p3 := (World.cell?_of_block (a := ⟨sb, q5 * 4 + 3, none⟩) hw').trans A5.out.c3
          clear hw'
          go_simp
        go_simp
        refine hK _ ?_
        clear hK K
        refine mix_step (fun K hK => ?_) (keep1 rfl)
        go_wp2_with fail
        refine hK _ _ (keep1 ((World.grownBy_alloc w8 (.cells #[.int .u8 k0.toNat, .int .u8 c0.toNat, .int .i64 n0, .slice ax0 m0 cx0, .int .u8 k1.toNat, .int .u8 c1.toNat, .int .i64 n1, .slice ax1 m1 cx1, .int .u8 k2.toNat, .int .u8 c2.toNat, .int .i64 n2, .slice ax2 m2 cx2, .int .u8 k3.toNat, .int .u8 c3.toNat, .int .i64 n3, .slice ax3 m3 cx3, .int .u8 k4.toNat, .int .u8 c4.toNat, .int .i64 n4, .slice ax4 m4 cx4, .int .u8 k5.toNat, .int .u8 c5.toNat, .int .i64 n5, .slice ax5 m5 cx5] 57) none).block sb hsz (by simp))) ?_
        clear hK K
        refine mix_free (fun K hK => ?_)
        go_simp
        refine hK _ ?_
        clear hK K
        refine mix_nil ?_
        clear r0 s1 r1 s2 r2 s3 r3 s4 r4 r5 y1 y2 y3 y4 y5
        have g9 := World.grownBy_alloc w8 (.cells #[.int .u8 k0.toNat, .int .u8 c0.toNat, .int .i64 n0, .slice ax0 m0 cx0, .int .u8 k1.toNat, .int .u8 c1.toNat, .int .i64 n1, .slice ax1 m1 cx1, .int .u8 k2.toNat, .int .u8 c2.toNat, .int .i64 n2, .slice ax2 m2 cx2, .int .u8 k3.toNat, .int .u8 c3.toNat, .int .i64 n3, .slice ax3 m3 cx3, .int .u8 k4.toNat, .int .u8 c4.toNat, .int .i64 n4, .slice ax4 m4 cx4, .int .u8 k5.toNat, .int .u8 c5.toNat, .int .i64 n5, .slice ax5 m5 cx5] 57) none
        have h9 := World.alloc_heap_new w8 (.cells #[.int .u8 k0.toNat, .int .u8 c0.toNat, .int .i64 n0, .slice ax0 m0 cx0, .int .u8 k1.toNat, .int .u8 c1.toNat, .int .i64 n1, .slice ax1 m1 cx1, .int .u8 k2.toNat, .int .u8 c2.toNat, .int .i64 n2, .slice ax2 m2 cx2, .int .u8 k3.toNat, .int .u8 c3.toNat, .int .i64 n3, .slice ax3 m3 cx3, .int .u8 k4.toNat, .int .u8 c4.toNat, .int .i64 n4, .slice ax4 m4 cx4, .int .u8 k5.toNat, .int .u8 c5.toNat, .int .i64 n5, .slice ax5 m5 cx5] 57)
        have B9 := B8.trans ((below_of_grown g9).mono B8.size)
        have hA9 : ActsAt (w8.alloc (.cells #[.int .u8 k0.toNat, .int .u8 c0.toNat, .int .i64 n0, .slice ax0 m0 cx0, .int .u8 k1.toNat, .int .u8 c1.toNat, .int .i64 n1, .slice ax1 m1 cx1, .int .u8 k2.toNat, .int .u8 c2.toNat, .int .i64 n2, .slice ax2 m2 cx2, .int .u8 k3.toNat, .int .u8 c3.toNat, .int .i64 n3, .slice ax3 m3 cx3, .int .u8 k4.toNat, .int .u8 c4.toNat, .int .i64 n4, .slice ax4 m4 cx4, .int .u8 k5.toNat, .int .u8 c5.toNat, .int .i64 n5, .slice ax5 m5 cx5] 57)) (some ⟨w8.heap.size, 0, none⟩) 6 := acts_of_six h9 6 fun i hi => by
          match i, hi with
          | 0, _ => exact ⟨k0, c0, n0, ax0, m0, cx0, xs0, rfl, rfl, rfl, rfl, A0.out.row.below (below_of_grown g9) (Nat.le_refl _), A0.out.len, A0.out.fits, U0.out⟩
          | 1, _ => exact ⟨k1, c1, n1, ax1, m1, cx1, xs1, rfl, rfl, rfl, rfl, A1.out.row.below (below_of_grown g9) (Nat.le_refl _), A1.out.len, A1.out.fits, U1.out⟩
          | 2, _ => exact ⟨k2, c2, n2, ax2, m2, cx2, xs2, rfl, rfl, rfl, rfl, A2.out.row.below (below_of_grown g9) (Nat.le_refl _), A2.out.len, A2.out.fits, U2.out⟩
          | 3, _ => exact ⟨k3, c3, n3, ax3, m3, cx3, xs3, rfl, rfl, rfl, rfl, A3.out.row.below (below_of_grown g9) (Nat.le_refl _), A3.out.len, A3.out.fits, U3.out⟩
          | 4, _ => exact ⟨k4, c4, n4, ax4, m4, cx4, xs4, rfl, rfl, rfl, rfl, A4.out.row.below (below_of_grown g9) (Nat.le_refl _), A4.out.len, A4.out.fits, U4.out⟩
          | 5, _ => exact ⟨k5, c5, n5, ax5, m5, cx5, xs5, rfl, rfl, rfl, rfl, A5.out.row.below (below_of_grown g9) (Nat.le_refl _), A5.out.len, A5.out.fits, U5.out⟩
        have HA9 := Lib.hid hA9
        clear hA9 g9 h9
        generalize w8.alloc (.cells #[.int .u8 k0.toNat, .int .u8 c0.toNat, .int .i64 n0, .slice ax0 m0 cx0, .int .u8 k1.toNat, .int .u8 c1.toNat, .int .i64 n1, .slice ax1 m1 cx1, .int .u8 k2.toNat, .int .u8 c2.toNat, .int .i64 n2, .slice ax2 m2 cx2, .int .u8 k3.toNat, .int .u8 c3.toNat, .int .i64 n3, .slice ax3 m3 cx3, .int .u8 k4.toNat, .int .u8 c4.toNat, .int .i64 n4, .slice ax4 m4 cx4, .int .u8 k5.toNat, .int .u8 c5.toNat, .int .i64 n5, .slice ax5 m5 cx5] 57) = w9 at HA9 B9 ⊢
        go_wp2_with fail
        refine (does_any _ _ _ 6 6 _ _ HA9.out (by omega)).mono ?_
        rintro e w10 ⟨rfl, B10⟩
        go_wp2_with fail
        go_roundw
        case rel => exact ⟨j + 1, by have := HLT.out; omega, by go_num, B9.trans (B10.mono B9.size)⟩
        case measure => have := HLT.out; simp [intOf]; omega
    · have hlf : decide ((j : Int) < 46656) = false := decide_eq_false (by omega)
      have B3 := B2.trans (hBr.mono B2.size)
      clear hlt hj HACTS
      go_wp2_with fail
      go_loopw [4] (fun v wr => ∃ z : Nat, 2 ≤ z ∧ z ≤ 300 ∧ v = .int .i64 z ∧ Below w.heap.size w wr) (fun v _ => 300 - (intOf v).toNat)
      case atStart => exact ⟨2, by omega, by omega, rfl, B3⟩
      case round =>
        clear B3 hBr B2
        obtain ⟨z, hz2, hz3, rfl, hBr⟩ := hrel
        by_cases hz : (z : Int) ≤ 256
        · obtain ⟨i7, hi7, hz7, hs7, hy7⟩ := info_parts Try.info57
          obtain ⟨base, hbase⟩ : ∃ x, x = wr.heap.size := ⟨_, rfl⟩
          have hbw : w.heap.size ≤ base := by rw [hbase]; exact hBr.size
          have hzi : (z : Int) ≤ 256 := hz
          have hb0 : base ≤ wr.heap.size := by omega
          clear hbase
          have hzn : z ≤ 256 := by omega
          obtain ⟨q, hq, hqb⟩ : ∃ q : Nat, (z : Int) / 2 = q ∧ q ≤ 128 := ⟨z / 2, by omega, by omega⟩
          obtain ⟨r, hr, hrb⟩ : ∃ r : Nat, (z : Int) / 20 = r ∧ r ≤ 12 := ⟨z / 20, by omega, by omega⟩
          clear hz3
          go_upto_region 14 with fail
          go_wp2_with fail
          go_loopw [90, 5] (fun v vl wr => ∃ (i cp : Nat) (al : Option Addr) (xs : List Value), i ≤ z + 1 ∧ v = .int .i64 i ∧ vl = .slice al i cp ∧ wr.ownsRow base 57 4 (.slice al i cp) i xs ∧ ActRow xs i ∧ Below w.heap.size w wr ∧ base ≤ wr.heap.size)
            (fun v _ _ => z + 1 - (intOf v).toNat)
          case atStart => exact ⟨0, 0, none, [], Nat.zero_le _, rfl, rfl, ⟨rfl, .inl ⟨rfl, rfl⟩⟩, ActRow.nil, hBr, hb0⟩
          case round =>
            clear hBr hb0
            obtain ⟨i, cp, al, xs, hi, rfl, rfl, hown, hrow, hBr, hb0⟩ := hrel
            by_cases hlt : i < z + 1
            · have hlt' : (i : Int) < z + 1 := by omega
              have hib : (i : Int) ≤ 256 := by omega
              obtain ⟨cc, hcc⟩ : ∃ cc : UInt8, (i : Int) % 256 = cc.toNat := ⟨UInt8.ofNat (i % 256), by simp⟩
              have h63 : i + 1 ≤ maxLen ∧ (i + 1) * 40 ≤ 140737488355328 := ⟨by unfold maxLen; omega, by omega⟩
              have H63 := Lib.hid h63
              clear h63
              go_wp2_with (at_builtin; go_loud (refine wpList_append_own_at _ rfl _ _ 55 rfl base 57 i7 (.agg #[.int .u8 0, .int .u8 0, .int .i64 0, .slice none 0 0]) 4 40 under55 hi7 hz7 hs7 hy7 rfl (by decide) _ _ _ rfl (hown.alloc _) ⟨wr.heap.size, 0, none⟩ 1 1 [.int .u8 0, .int .u8 cc.toNat, .int .i64 0, .slice none 0 0] rfl rfl (cells_new _ _ _) (by simp [Value.oneCell']) H63.out.1 H63.out.2 (by simp; omega) ?_; intro v' w6 hown' hgrow _ _; obtain ⟨al', cp', rfl, _⟩ := own_slice hown'))
              have BA := hBr.alloc hBr.size (.cells #[.int .u8 0, .int .u8 cc.toNat, .int .i64 0, .slice none 0 0] 57)
              have B6 := BA.grown hgrow BA.size (fun r e => by have := (hown.lt r e).1; omega)
              have hb6 : base ≤ w6.heap.size := Nat.le_trans (Nat.le_trans hb0 (by simp)) hgrow.size
              go_roundw
              case rel => exact ⟨i + 1, cp', al', _, by omega, by go_num, rfl, hown', hrow.snoc 0 cc 0, B6, hb6⟩
              case measure => simp [intOf]; omega
            · obtain rfl : i = z + 1 := by omega
              have hge : ¬ (((z + 1 : Nat) : Int) < z + 1) := by omega
              have h63 : z + 1 + 2 ≤ maxLen ∧ (z + 1 + 2) * 40 ≤ 140737488355328 := ⟨by unfold maxLen; omega, by omega⟩
              have H63 := Lib.hid h63
              clear h63 hlt hi
              go_upto_region 19 with fail
              go_wp2_with (at_builtin; go_loud (refine wpList_append_own_at _ rfl _ _ 55 rfl base 57 i7 (.agg #[.int .u8 0, .int .u8 0, .int .i64 0, .slice none 0 0]) 4 40 under55 hi7 hz7 hs7 hy7 rfl (by decide) _ _ _ rfl (hown.alloc _) ⟨wr.heap.size, 0, none⟩ 2 2 [.int .u8 5, .int .u8 0, .int .i64 0, .slice none 0 0, .int .u8 7, .int .u8 9, .int .i64 0, .slice none 0 0] rfl rfl (cells_new _ _ _) (by simp [Value.oneCell']) H63.out.1 H63.out.2 (by simp; omega) ?_; intro v' w6 hown' hgrow _ _; obtain ⟨al', cp', rfl, _⟩ := own_slice hown'))
              have BA := hBr.alloc hBr.size (.cells #[.int .u8 5, .int .u8 0, .int .i64 0, .slice none 0 0, .int .u8 7, .int .u8 9, .int .i64 0, .slice none 0 0] 57)
              have B6 := BA.grown hgrow BA.size (fun r e => by have := (hown.lt r e).1; omega)
              have hb6 : base ≤ w6.heap.size := Nat.le_trans (Nat.le_trans hb0 (by simp)) hgrow.size
              have hrow6 : ActRow (xs ++ [.int .u8 5, .int .u8 0, .int .i64 0, .slice none 0 0, .int .u8 7, .int .u8 9, .int .i64 0, .slice none 0 0]) (z + 1 + 2) := by
                have := (hrow.snoc 5 0 0).snoc 7 9 0
                simpa using this
              clear hown hrow hBr hb0 hgrow BA H63
              generalize xs ++ _ = ys at hown' hrow6
              go_loopw [108, 5] (fun v vl wr => ∃ (i n cp : Nat) (al : Option Addr) (xs : List Value), i ≤ q + 1 ∧ n ≤ 300 + i ∧ v = .int .i64 i ∧ vl = .slice al n cp ∧ wr.ownsRow base 57 4 (.slice al n cp) n xs ∧ ActRow xs n ∧ Below w.heap.size w wr ∧ base ≤ wr.heap.size)
                (fun v _ _ => q + 1 - (intOf v).toNat)
              case atStart => exact ⟨0, z + 1 + 2, cp', al', ys, Nat.zero_le _, by omega, rfl, rfl, hown', hrow6, B6, hb6⟩
              case round =>
                clear hown' hrow6 B6 hb6
                obtain ⟨i, n, cp, al, xs, hi, hn, rfl, rfl, hown, hrow, hBr, hb0⟩ := hrel
                by_cases hlt : i < q + 1
                · have hlt' : (i : Int) < q + 1 := by omega
                  have hib : (i : Int) ≤ 256 := by omega
                  obtain ⟨cc, hcc⟩ : ∃ cc : UInt8, ((i : Int) * 3) % 256 = cc.toNat := ⟨UInt8.ofNat (i * 3 % 256), by simp⟩
                  have h63 : n + 1 ≤ maxLen ∧ (n + 1) * 40 ≤ 140737488355328 := ⟨by unfold maxLen; omega, by omega⟩
                  have H63 := Lib.hid h63
                  clear h63
                  go_wp2_with (at_builtin; go_loud (refine wpList_append_own_at _ rfl _ _ 55 rfl base 57 i7 (.agg #[.int .u8 0, .int .u8 0, .int .i64 0, .slice none 0 0]) 4 40 under55 hi7 hz7 hs7 hy7 rfl (by decide) _ _ _ rfl (hown.alloc _) ⟨wr.heap.size, 0, none⟩ 1 1 [.int .u8 0, .int .u8 cc.toNat, .int .i64 0, .slice none 0 0] rfl rfl (cells_new _ _ _) (by simp [Value.oneCell']) H63.out.1 H63.out.2 (by simp; omega) ?_; intro v' w6 hown' hgrow _ _; obtain ⟨al', cp', rfl, _⟩ := own_slice hown'))
                  have BA := hBr.alloc hBr.size (.cells #[.int .u8 0, .int .u8 cc.toNat, .int .i64 0, .slice none 0 0] 57)
                  have B6 := BA.grown hgrow BA.size (fun r e => by have := (hown.lt r e).1; omega)
                  have hb6 : base ≤ w6.heap.size := Nat.le_trans (Nat.le_trans hb0 (by simp)) hgrow.size
                  go_roundw
                  case rel => exact ⟨i + 1, n + 1, cp', al', _, by omega, by omega, by go_num, rfl, hown', hrow.snoc 0 cc 0, B6, hb6⟩
                  case measure => simp [intOf]; omega
                · have hge : ¬ ((i : Int) < q + 1) := by omega
                  have h63 : n + 3 ≤ maxLen ∧ (n + 3) * 40 ≤ 140737488355328 := ⟨by unfold maxLen; omega, by omega⟩
                  have H63 := Lib.hid h63
                  clear h63
                  have hnew := cells_new (wr.alloc (.cells #[.int .u8 0, .int .u8 3] 5)) [.int .u8 6, .int .u8 0, .int .i64 1, .slice (some ⟨wr.heap.size, 0, none⟩) 2 2, .int .u8 4, .int .u8 0, .int .i64 z, .slice none 0 0, .int .u8 5, .int .u8 0, .int .i64 0, .slice none 0 0] 57
                  rw [show (wr.alloc (.cells #[.int .u8 0, .int .u8 3] 5)).heap.size = wr.heap.size + 1 by simp] at hnew
                  have HNEW := Lib.hid hnew
                  clear hnew
                  go_wp2_with (at_builtin; go_loud (refine wpList_append_own_at _ rfl _ _ 55 rfl base 57 i7 (.agg #[.int .u8 0, .int .u8 0, .int .i64 0, .slice none 0 0]) 4 40 under55 hi7 hz7 hs7 hy7 rfl (by decide) _ _ _ rfl ((hown.alloc _).alloc _) ⟨wr.heap.size + 1, 0, none⟩ 3 3 [.int .u8 6, .int .u8 0, .int .i64 1, .slice (some ⟨wr.heap.size, 0, none⟩) 2 2, .int .u8 4, .int .u8 0, .int .i64 z, .slice none 0 0, .int .u8 5, .int .u8 0, .int .i64 0, .slice none 0 0] rfl rfl HNEW.out (by simp [Value.oneCell']) H63.out.1 H63.out.2 (by simp; omega) ?_; intro v' w6 hown' hgrow _ _; obtain ⟨al', cp', rfl, _⟩ := own_slice hown'))
                  have hgr : ((wr.alloc (.cells #[.int .u8 0, .int .u8 3] 5)).alloc (.cells #[.int .u8 6, .int .u8 0, .int .i64 1, .slice (some ⟨wr.heap.size, 0, none⟩) 2 2, .int .u8 4, .int .u8 0, .int .i64 z, .slice none 0 0, .int .u8 5, .int .u8 0, .int .i64 0, .slice none 0 0] 57)).grownBy w6 (Value.slice al n cp).ownBlock := hgrow
                  clear hgrow
                  have hP := ((World.grownBy_alloc (wr.alloc (.cells #[.int .u8 0, .int .u8 3] 5)) (.cells #[.int .u8 6, .int .u8 0, .int .i64 1, .slice (some ⟨wr.heap.size, 0, none⟩) 2 2, .int .u8 4, .int .u8 0, .int .i64 z, .slice none 0 0, .int .u8 5, .int .u8 0, .int .i64 0, .slice none 0 0] 57) none).block wr.heap.size (by simp) (by simp)).trans (World.alloc_heap_new wr (.cells #[.int .u8 0, .int .u8 3] 5))
                  have hs6 : Slc w6 (some ⟨wr.heap.size, 0, none⟩) [0, 3] := Slc.two (x := 0) (y := 3) ((hgr.block wr.heap.size (by simp; omega) (fun e => by have := (hown.lt _ e.symm).2; omega)).trans hP)
                  have BA := (hBr.alloc hBr.size (.cells #[.int .u8 0, .int .u8 3] 5)).alloc (hBr.alloc hBr.size (.cells #[.int .u8 0, .int .u8 3] 5)).size (.cells #[.int .u8 6, .int .u8 0, .int .i64 1, .slice (some ⟨wr.heap.size, 0, none⟩) 2 2, .int .u8 4, .int .u8 0, .int .i64 z, .slice none 0 0, .int .u8 5, .int .u8 0, .int .i64 0, .slice none 0 0] 57)
                  have B6 := BA.grown hgr BA.size (fun r e => by have := (hown.lt r e).1; omega)
                  have hl := hrow.len
                  have hA : ActsAt w6 al' (n + 3) := acts_of_owns hown' fun i hi => by
                    by_cases e : i < n
                    · obtain ⟨k, d, mm, h0, h1, h2, h3⟩ := hrow.each i e
                      exact ⟨k, d, mm, none, 0, 0, [], by rw [List.getElem?_append_left (by omega)]; exact h0, by rw [List.getElem?_append_left (by omega)]; exact h1, by rw [List.getElem?_append_left (by omega)]; exact h2, by rw [List.getElem?_append_left (by omega)]; exact h3, .inl rfl, rfl, Nat.le_refl _, by omega⟩
                    · obtain ⟨t, rfl, ht⟩ : ∃ t, i = n + t ∧ t < 3 := ⟨i - n, by omega, by omega⟩
                      have key : ∀ c, (n + t) * 4 + c - xs.length = t * 4 + c := fun c => by omega
                      have key0 : (n + t) * 4 - xs.length = t * 4 := by omega
                      match t, ht with
                      | 0, _ => exact ⟨6, 0, 1, _, 2, 2, [0, 3], by rw [List.getElem?_append_right (by omega), key0]; rfl, by rw [List.getElem?_append_right (by omega), key]; rfl, by rw [List.getElem?_append_right (by omega), key]; rfl, by rw [List.getElem?_append_right (by omega), key]; rfl, hs6, rfl, Nat.le_refl _, by omega⟩
                      | 1, _ => exact ⟨4, 0, z, none, 0, 0, [], by rw [List.getElem?_append_right (by omega), key0]; rfl, by rw [List.getElem?_append_right (by omega), key]; rfl, by rw [List.getElem?_append_right (by omega), key]; rfl, by rw [List.getElem?_append_right (by omega), key]; rfl, .inl rfl, rfl, Nat.le_refl _, by omega⟩
                      | 2, _ => exact ⟨5, 0, 0, none, 0, 0, [], by rw [List.getElem?_append_right (by omega), key0]; rfl, by rw [List.getElem?_append_right (by omega), key]; rfl, by rw [List.getElem?_append_right (by omega), key]; rfl, by rw [List.getElem?_append_right (by omega), key]; rfl, .inl rfl, rfl, Nat.le_refl _, by omega⟩
                  have HA := Lib.hid hA
                  clear hA hs6 hP hgr BA hown' hown hrow hBr
                  refine (does_any _ _ _ _ _ _ w6 HA.out (by omega)).mono ?_
                  rintro e w7 ⟨rfl, B7⟩
                  go_wp2_with fail
                  go_roundw
                  case rel => exact ⟨z + (1 + r), by omega, by omega, by go_num, B6.trans (B7.mono B6.size)⟩
                  case measure => simp [intOf]; omega
        · go_upto_region 28 with fail
          go_wp2_with fail
          have g5 := World.grownBy_alloc wr (.cells #[.int .i64 (-9223372036854775808), .int .i64 (-1), .int .i64 0, .int .i64 1, .int .i64 2, .int .i64 256, .int .i64 257, .int .i64 281474976710654, .int .i64 281474976710655, .int .i64 281474976710656, .int .i64 281474976710657, .int .i64 9223372036854775807] 3) none
          have h5 := World.alloc_heap_new wr (.cells #[.int .i64 (-9223372036854775808), .int .i64 (-1), .int .i64 0, .int .i64 1, .int .i64 2, .int .i64 256, .int .i64 257, .int .i64 281474976710654, .int .i64 281474976710655, .int .i64 281474976710656, .int .i64 281474976710657, .int .i64 9223372036854775807] 3)
          have B5 := hBr.trans ((below_of_grown g5).mono hBr.size)
          generalize wr.alloc (.cells #[.int .i64 (-9223372036854775808), .int .i64 (-1), .int .i64 0, .int .i64 1, .int .i64 2, .int .i64 256, .int .i64 257, .int .i64 281474976710654, .int .i64 281474976710655, .int .i64 281474976710656, .int .i64 281474976710657, .int .i64 9223372036854775807] 3) = w5 at h5 B5 ⊢
          clear g5 hBr
          have hnum : ∀ j, j < 12 → ∃ nn : Int, w5.cell? ⟨wr.heap.size, j, none⟩ = some (.int .i64 nn) := fun j hj => by
            rw [cell_of_block h5]
            match j, hj with
            | 0, _ => exact ⟨(-9223372036854775808), rfl⟩
            | 1, _ => exact ⟨(-1), rfl⟩
            | 2, _ => exact ⟨0, rfl⟩
            | 3, _ => exact ⟨1, rfl⟩
            | 4, _ => exact ⟨2, rfl⟩
            | 5, _ => exact ⟨256, rfl⟩
            | 6, _ => exact ⟨257, rfl⟩
            | 7, _ => exact ⟨281474976710654, rfl⟩
            | 8, _ => exact ⟨281474976710655, rfl⟩
            | 9, _ => exact ⟨281474976710656, rfl⟩
            | 10, _ => exact ⟨281474976710657, rfl⟩
            | 11, _ => exact ⟨9223372036854775807, rfl⟩
          have hgx : wr.heap.size < w5.heap.size := (Array.getElem?_eq_some_iff.1 h5).1
          clear h5
          generalize wr.heap.size = gx at hnum hgx ⊢
          have HNUM := Lib.hid hnum
          clear hnum
          go_loopw [136] (fun v wr => ∃ j : Nat, j ≤ 12 ∧ v = .int .i64 j ∧ Below w5.heap.size w5 wr) (fun v _ => 12 - (intOf v).toNat)
          case atStart => exact ⟨0, by omega, rfl, Below.refl _ _⟩
          case round =>
            obtain ⟨j, hj, rfl, hBr⟩ := hrel
            by_cases hlt : j < 12
            · have hlt' : (j : Int) < 12 := by omega
              obtain ⟨nn, hnn⟩ := HNUM.out j hlt
              replace hnn := (hBr.cell (p := ⟨gx, j, none⟩) hgx).trans hnn
              go_upto_region 32 with fail
              clear hnn
              have hA := eight_acts wr nn
              have B6 := (hBr.alloc hBr.size (.cells #[.int .u8 2] 5)).alloc (hBr.alloc hBr.size (.cells #[.int .u8 2] 5)).size (.cells #[.int .u8 0, .int .u8 1, .int .i64 0, .slice none 0 0, .int .u8 0, .int .u8 2, .int .i64 0, .slice none 0 0, .int .u8 0, .int .u8 3, .int .i64 0, .slice none 0 0, .int .u8 4, .int .u8 0, .int .i64 nn, .slice none 0 0, .int .u8 6, .int .u8 0, .int .i64 nn, .slice none 0 0, .int .u8 6, .int .u8 0, .int .i64 nn, .slice (some ⟨wr.heap.size, 0, none⟩) 1 1, .int .u8 5, .int .u8 0, .int .i64 0, .slice none 0 0, .int .u8 0, .int .u8 4, .int .i64 0, .slice none 0 0] 57)
              generalize (wr.alloc (.cells #[.int .u8 2] 5)).alloc (.cells #[.int .u8 0, .int .u8 1, .int .i64 0, .slice none 0 0, .int .u8 0, .int .u8 2, .int .i64 0, .slice none 0 0, .int .u8 0, .int .u8 3, .int .i64 0, .slice none 0 0, .int .u8 4, .int .u8 0, .int .i64 nn, .slice none 0 0, .int .u8 6, .int .u8 0, .int .i64 nn, .slice none 0 0, .int .u8 6, .int .u8 0, .int .i64 nn, .slice (some ⟨wr.heap.size, 0, none⟩) 1 1, .int .u8 5, .int .u8 0, .int .i64 0, .slice none 0 0, .int .u8 0, .int .u8 4, .int .i64 0, .slice none 0 0] 57) = w6 at hA B6 ⊢
              generalize wr.heap.size + 1 = ga at hA ⊢
              have HA := Lib.hid hA
              clear hA
              go_wp2_with fail
              refine (does_any nn 5 _ 8 8 0 w6 HA.out (by omega)).mono ?_
              rintro e w7 ⟨rfl, B7⟩
              have HAb := Lib.hid (acts_keep HA.out B7)
              go_wp2_with fail
              refine (does_any 3 nn _ 8 8 0 w7 HAb.out (by omega)).mono ?_
              rintro e w8 ⟨rfl, B8⟩
              have HAc := Lib.hid (acts_keep HAb.out B8)
              go_wp2_with fail
              refine (does_any 3 5 _ 8 8 nn w8 HAc.out (by omega)).mono ?_
              rintro e w9 ⟨rfl, B9⟩
              go_wp2_with fail
              have C7 := B6.trans (B7.mono B6.size)
              have C8 := C7.trans (B8.mono C7.size)
              have C9 := C8.trans (B9.mono C8.size)
              go_roundw
              case rel => exact ⟨j + 1, by omega, by go_num, C9⟩
              case measure => simp [intOf]; omega
            · have hge : ¬ ((j : Int) < 12) := by omega
              have B6 := B5.trans (hBr.mono B5.size)
              clear hlt hj HNUM
              have hz61 := Z_run
              have hzs := Z_size
              go_upto_region 36 with fail
              clear hz61 hzs
              have g7 := World.grownBy_alloc wr (.cells Z 61) none
              have g8 := World.grownBy_alloc (wr.alloc (.cells Z 61)) (.cells #[.pointer none, .pointer (some ⟨wr.heap.size, 0, none⟩)] 25) none
              have hzz : Zero ((wr.alloc (.cells Z 61)).alloc (.cells #[.pointer none, .pointer (some ⟨wr.heap.size, 0, none⟩)] 25)) wr.heap.size := Zero.alloc (World.alloc_heap_new _ _) _
              have hgy := World.alloc_heap_new (wr.alloc (.cells Z 61)) (.cells #[.pointer none, .pointer (some ⟨wr.heap.size, 0, none⟩)] 25)
              rw [show (wr.alloc (.cells Z 61)).heap.size = wr.heap.size + 1 by simp] at hgy
              have B8 := B6.trans ((below_of_grown (grown_trans g7 g8)).mono B6.size)
              generalize (wr.alloc (.cells Z 61)).alloc (.cells #[.pointer none, .pointer (some ⟨wr.heap.size, 0, none⟩)] 25) = w8 at hzz hgy B8 ⊢
              clear g7 g8 B6 hBr
              have hval : ∀ j, j < 2 → ∃ v : Value, w8.cell? ⟨wr.heap.size + 1, j, none⟩ = some v ∧ NoBuf w8 v := fun j hj => by
                rw [cell_of_block hgy]
                match j, hj with
                | 0, _ => exact ⟨.pointer none, rfl, .inl rfl⟩
                | 1, _ => exact ⟨.pointer (some ⟨wr.heap.size, 0, none⟩), rfl, .inr ⟨_, rfl, hzz⟩⟩
              have hgyl := (Array.getElem?_eq_some_iff.1 hgy).1
              clear hgy hzz
              generalize wr.heap.size + 1 = gy at hval hgyl ⊢
              have HVAL := Lib.hid hval
              clear hval
              go_loopw [174] (fun v wr => ∃ j : Nat, j ≤ 2 ∧ v = .int .i64 j ∧ w8.grownBy wr none) (fun v _ => 2 - (intOf v).toNat)
              case atStart => exact ⟨0, by omega, rfl, grown_refl _ _⟩
              case round =>
                obtain ⟨j, hj, rfl, gr⟩ := hrel
                by_cases hlt : j < 2
                · have hlt' : (j : Int) < 2 := by omega
                  obtain ⟨v, hv, hN⟩ := HVAL.out j hlt
                  replace hv := (World.cell?_of_block (a := ⟨gy, j, none⟩) (gr.block gy hgyl (by simp))).trans hv
                  replace hN := hN.grown gr
                  have B := B8.trans ((below_of_grown gr).mono B8.size)
                  have G := gr
                  go_wp2_with fail
                  refine (take_no v 0 wr hN).mono ?_
                  rintro e w9 ⟨rfl, g9⟩
                  clear hv
                  replace hN := hN.grown g9
                  replace G := grown_trans G g9
                  clear g9
                  go_upto_region 39 with fail
                  have gA := World.grownBy_alloc w9 (.cells #[.int .i64 0, .int .i64 0] 31) none
                  have T14 : Two (w9.alloc (.cells #[.int .i64 0, .int .i64 0] 31)) w9.heap.size 0 0 := ⟨by rw [World.alloc_heap_new]⟩
                  replace hN := hN.grown gA
                  replace G := grown_trans G gA
                  generalize w9.alloc (.cells #[.int .i64 0, .int .i64 0] 31) = w10 at hN G T14 gA ⊢
                  clear gA
                  generalize w9.heap.size = y14 at T14 ⊢
                  go_wp2_with fail
                  refine (discard_no v w10 hN).mono ?_
                  rintro e w11 ⟨rfl, g9⟩
                  replace hN := hN.grown g9
                  replace G := grown_trans G g9
                  replace T14 := T14.grown g9 (by simp)
                  clear g9
                  go_upto_region 40 with fail
                  have gA := World.grownBy_alloc w11 (.cells #[.int .i64 0, .int .i64 0] 31) none
                  have T16 : Two (w11.alloc (.cells #[.int .i64 0, .int .i64 0] 31)) w11.heap.size 0 0 := ⟨by rw [World.alloc_heap_new]⟩
                  replace hN := hN.grown gA
                  replace G := grown_trans G gA
                  replace T14 := T14.grown gA (by simp)
                  generalize w11.alloc (.cells #[.int .i64 0, .int .i64 0] 31) = w12 at hN G T14 T16 gA ⊢
                  clear gA
                  generalize w11.heap.size = y16 at T16 ⊢
                  go_wp2_with fail
                  refine (at_no v 0 w12 hN).mono ?_
                  rintro e w13 ⟨rfl, g9⟩
                  replace hN := hN.grown g9
                  replace G := grown_trans G g9
                  replace T14 := T14.grown g9 (by simp)
                  replace T16 := T16.grown g9 (by simp)
                  clear g9
                  go_upto_region 41 with fail
                  refine region_mix [(0, .inl none), (1, .inr [0]), (2, .inl none), (3, .inl none), (4, .inl none), (5, .inl none), (6, .inl none), (7, .inl none), (8, .inl none), (9, .inl none), (10, .inl none), (11, .inl none), (12, .inl none), (13, .inl none), (14, .inl none), (15, .inl (some 0)), (16, .inl (some 0)), (17, .inl none), (18, .inl none), (19, .inl none), (20, .inl (some 0)), (21, .inl none), (22, .inr [0]), (23, .inl none), (24, .inl none), (25, .inl none), (26, .inl (some 0)), (27, .inl none), (28, .inl none), (29, .inl none), (30, .inl none), (31, .inl none), (32, .inr [0]), (33, .inl none), (34, .inl none), (35, .inl none), (36, .inl none), (37, .inl none), (38, .inr [0]), (39, .inl none), (40, .inl none), (41, .inl none), (42, .inr [0]), (43, .inl none), (44, .inl none), (45, .inl none), (46, .inl none), (47, .inr [0]), (48, .inl none), (49, .inl none), (50, .inl none), (51, .inl none), (52, .inr [0]), (53, .inl none), (54, .inl none)]
                    (fun _ W => W.cell? ⟨y14, 0, none⟩ = some (.int .i64 0) ∧ W.cell? ⟨y14, 1, none⟩ = some (.int .i64 0) ∧ W.cell? ⟨y16, 0, none⟩ = some (.int .i64 0) ∧ W.cell? ⟨y16, 1, none⟩ = some (.int .i64 0)) (by kernel_rfl) (by kernel_rfl) (fun _ => ⟨T14.c0, T14.c1, T16.c0, T16.c1⟩) ?_
                  simp only [pickK, List.filterMap_cons, List.filterMap_nil, List.getElem?_toArray, List.getElem?_cons_zero, List.getElem?_cons_succ, Option.map_some]
                  have gn := grown_drewN w13 1 none
                  replace hN := hN.grown gn
                  replace G := grown_trans G gn
                  replace T14 := T14.grown gn (by simp)
                  replace T16 := T16.grown gn (by simp)
                  clear gn
                  generalize w13.drewN 1 = w14 at hN G T14 T16 ⊢
                  refine mix_free (fun K hK => ?_)
                  go_simp
                  refine hK _ ?_
                  clear hK K
                  refine mix_step (fun K hK => ?_) (keep1 ⟨T14.c0, T14.c1, T16.c0, T16.c1⟩)
                  go_wp2_with fail
                  refine (put_no v 1 _ hN).mono ?_
                  rintro e wn ⟨rfl, gn⟩
                  replace hN := hN.grown gn
                  replace T14 := T14.grown gn (by simp)
                  replace T16 := T16.grown gn (by simp)
                  replace G := grown_trans G gn
                  clear gn
                  go_wp2_with fail
                  refine hK _ _ (keep1 ⟨T14.c0, T14.c1, T16.c0, T16.c1⟩) ?_
                  clear hK K
                  refine mix_free (fun K hK => ?_)
                  go_simp
                  refine hK _ ?_
                  clear hK K
                  refine mix_free (fun K hK => ?_)
                  go_simp
                  refine hK _ ?_
                  clear hK K
                  refine mix_free (fun K hK => ?_)
                  go_simp
                  refine hK _ ?_
                  clear hK K
                  refine mix_free (fun K hK => ?_)
                  go_simp
                  refine hK _ ?_
                  clear hK K
                  refine mix_free (fun K hK => ?_)
                  go_simp
                  refine hK _ ?_
                  clear hK K
                  refine mix_free (fun K hK => ?_)
                  go_simp
                  refine hK _ ?_
                  clear hK K
                  refine mix_free (fun K hK => ?_)
                  go_simp
                  refine hK _ ?_
                  clear hK K
                  refine mix_free (fun K hK => ?_)
                  go_simp
                  refine hK _ ?_
                  clear hK K
                  refine mix_free (fun K hK => ?_)
                  go_simp
                  refine hK _ ?_
                  clear hK K
                  refine mix_free (fun K hK => ?_)
                  go_simp
                  refine hK _ ?_
                  clear hK K
                  refine mix_free (fun K hK => ?_)
                  go_simp
                  refine hK _ ?_
                  clear hK K
                  refine mix_free (fun K hK => ?_)
                  go_simp
                  refine hK _ ?_
                  clear hK K
                  refine mix_free (fun K hK => ?_)
                  go_simp
                  refine hK _ ?_
                  clear hK K
                  refine mix_val (.agg #[.int .i64 0, .int .i64 0]) (by rfl) (fun w' hw' => ?_) (fun K hK => ?_)
                  · obtain ⟨p0, p1, p2, p3⟩ := hw'
                    go_simp
                  go_simp
                  refine hK _ ?_
                  clear hK K
                  refine mix_val (.agg #[.int .i64 0, .int .i64 0]) (by rfl) (fun w' hw' => ?_) (fun K hK => ?_)
                  · obtain ⟨p0, p1, p2, p3⟩ := hw'
                    go_simp
                  go_simp
                  refine hK _ ?_
                  clear hK K
                  refine mix_free (fun K hK => ?_)
                  go_simp
                  refine hK _ ?_
                  clear hK K
                  refine mix_free (fun K hK => ?_)
                  go_simp
                  refine hK _ ?_
                  clear hK K
                  refine mix_free (fun K hK => ?_)
                  go_simp
                  refine hK _ ?_
                  clear hK K
                  refine mix_val (.agg #[.int .i64 0, .int .i64 0]) (by rfl) (fun w' hw' => ?_) (fun K hK => ?_)
                  · obtain ⟨p0, p1, p2, p3⟩ := hw'
                    go_simp
                  go_simp
                  refine hK _ ?_
                  clear hK K
                  refine mix_free (fun K hK => ?_)
                  go_simp
                  refine hK _ ?_
                  clear hK K
                  refine mix_step (fun K hK => ?_) (keep1 ⟨T14.c0, T14.c1, T16.c0, T16.c1⟩)
                  go_wp2_with fail
                  refine (part_no v _ hN).mono ?_
                  rintro e wn ⟨rfl, gn⟩
                  replace hN := hN.grown gn
                  replace T14 := T14.grown gn (by simp)
                  replace T16 := T16.grown gn (by simp)
                  replace G := grown_trans G gn
                  clear gn
                  go_wp2_with fail
                  refine hK _ _ (keep1 ⟨T14.c0, T14.c1, T16.c0, T16.c1⟩) ?_
                  clear hK K
                  refine mix_free (fun K hK => ?_)
                  go_simp
                  refine hK _ ?_
                  clear hK K
                  refine mix_free (fun K hK => ?_)
                  go_simp
                  refine hK _ ?_
                  clear hK K
                  refine mix_free (fun K hK => ?_)
                  go_simp
                  refine hK _ ?_
                  clear hK K
                  refine mix_val (.agg #[.int .i64 0, .int .i64 0]) (by rfl) (fun w' hw' => ?_) (fun K hK => ?_)
                  · obtain ⟨p0, p1, p2, p3⟩ := hw'
                    go_simp
                  go_simp
                  refine hK _ ?_
                  clear hK K
                  refine mix_free (fun K hK => ?_)
                  go_simp
                  refine hK _ ?_
                  clear hK K
                  refine mix_free (fun K hK => ?_)
                  go_simp
                  refine hK _ ?_
                  clear hK K
                  refine mix_free (fun K hK => ?_)
                  go_simp
                  refine hK _ ?_
                  clear hK K
                  refine mix_free (fun K hK => ?_)
                  go_simp
                  refine hK _ ?_
                  clear hK K
                  refine mix_free (fun K hK => ?_)
                  go_simp
                  refine hK _ ?_
                  clear hK K
                  refine mix_step (fun K hK => ?_) (keep1 ⟨T14.c0, T14.c1, T16.c0, T16.c1⟩)
                  go_wp2_with fail
                  refine (bytes_no v _ hN).mono ?_
                  rintro e wn ⟨rfl, gn⟩
                  replace hN := hN.grown gn
                  replace T14 := T14.grown gn (by simp)
                  replace T16 := T16.grown gn (by simp)
                  replace G := grown_trans G gn
                  clear gn
                  go_wp2_with fail
                  refine hK _ _ (keep1 ⟨T14.c0, T14.c1, T16.c0, T16.c1⟩) ?_
                  clear hK K
                  refine mix_free (fun K hK => ?_)
                  go_simp
                  refine hK _ ?_
                  clear hK K
                  refine mix_free (fun K hK => ?_)
                  go_simp
                  refine hK _ ?_
                  clear hK K
                  refine mix_free (fun K hK => ?_)
                  go_simp
                  refine hK _ ?_
                  clear hK K
                  refine mix_free (fun K hK => ?_)
                  go_simp
                  refine hK _ ?_
                  clear hK K
                  refine mix_free (fun K hK => ?_)
                  go_simp
                  refine hK _ ?_
                  clear hK K
                  refine mix_step (fun K hK => ?_) (keep1 ⟨T14.c0, T14.c1, T16.c0, T16.c1⟩)
                  go_wp2_with fail
                  refine (full_no v _ hN).mono ?_
                  rintro e wn ⟨rfl, gn⟩
                  replace hN := hN.grown gn
                  replace T14 := T14.grown gn (by simp)
                  replace T16 := T16.grown gn (by simp)
                  replace G := grown_trans G gn
                  clear gn
                  go_wp2_with fail
                  refine hK _ _ (keep1 ⟨T14.c0, T14.c1, T16.c0, T16.c1⟩) ?_
                  clear hK K
                  refine mix_free (fun K hK => ?_)
                  go_simp
                  refine hK _ ?_
                  clear hK K
                  refine mix_free (fun K hK => ?_)
                  go_simp
                  refine hK _ ?_
                  clear hK K
                  refine mix_free (fun K hK => ?_)
                  go_simp
                  refine hK _ ?_
                  clear hK K
                  refine mix_step (fun K hK => ?_) (keep1 ⟨T14.c0, T14.c1, T16.c0, T16.c1⟩)
                  go_wp2_with fail
                  refine (size_no v _ hN).mono ?_
                  rintro e wn ⟨rfl, gn⟩
                  replace hN := hN.grown gn
                  replace T14 := T14.grown gn (by simp)
                  replace T16 := T16.grown gn (by simp)
                  replace G := grown_trans G gn
                  clear gn
                  go_wp2_with fail
                  refine hK _ _ (keep1 ⟨T14.c0, T14.c1, T16.c0, T16.c1⟩) ?_
                  clear hK K
                  refine mix_free (fun K hK => ?_)
                  go_simp
                  refine hK _ ?_
                  clear hK K
                  refine mix_free (fun K hK => ?_)
                  go_simp
                  refine hK _ ?_
                  clear hK K
                  refine mix_free (fun K hK => ?_)
                  go_simp
                  refine hK _ ?_
                  clear hK K
                  refine mix_free (fun K hK => ?_)
                  go_simp
                  refine hK _ ?_
                  clear hK K
                  refine mix_step (fun K hK => ?_) (keep1 ⟨T14.c0, T14.c1, T16.c0, T16.c1⟩)
                  go_wp2_with fail
                  refine (find_no v none 0 0 0 _ hN).mono ?_
                  rintro e wn ⟨rfl, gn⟩
                  replace hN := hN.grown gn
                  replace T14 := T14.grown gn (by simp)
                  replace T16 := T16.grown gn (by simp)
                  replace G := grown_trans G gn
                  clear gn
                  go_wp2_with fail
                  refine hK _ _ (keep1 ⟨T14.c0, T14.c1, T16.c0, T16.c1⟩) ?_
                  clear hK K
                  refine mix_free (fun K hK => ?_)
                  go_simp
                  refine hK _ ?_
                  clear hK K
                  refine mix_free (fun K hK => ?_)
                  go_simp
                  refine hK _ ?_
                  clear hK K
                  refine mix_free (fun K hK => ?_)
                  go_simp
                  refine hK _ ?_
                  clear hK K
                  refine mix_free (fun K hK => ?_)
                  go_simp
                  refine hK _ ?_
                  clear hK K
                  refine mix_step (fun K hK => ?_) (keep1 ⟨T14.c0, T14.c1, T16.c0, T16.c1⟩)
                  go_wp2_with fail
                  refine (copy_no v _ hN).mono ?_
                  rintro e wn ⟨rfl, gn⟩
                  replace hN := hN.grown gn
                  replace T14 := T14.grown gn (by simp)
                  replace T16 := T16.grown gn (by simp)
                  replace G := grown_trans G gn
                  clear gn
                  go_wp2_with fail
                  refine hK _ _ (keep1 ⟨T14.c0, T14.c1, T16.c0, T16.c1⟩) ?_
                  clear hK K
                  refine mix_free (fun K hK => ?_)
                  go_simp
                  refine hK _ ?_
                  clear hK K
                  refine mix_free (fun K hK => ?_)
                  go_simp
                  refine hK _ ?_
                  clear hK K
                  refine mix_nil ?_
                  go_wp2_with fail
                  go_roundw
                  case rel => exact ⟨j + 1, by omega, by go_num, G⟩
                  case measure => simp [intOf]; omega
                · have hge : ¬ ((j : Int) < 2) := by omega
                  have B9 := B8.trans ((below_of_grown gr).mono B8.size)
                  go_wp2_with fail
                  refine (awake_any wr).mono ?_
                  rintro e w9 ⟨rfl, g9⟩
                  go_wp2_with fail
                  go_ret
                  exact ⟨rfl, B9.trans ((below_of_grown g9).mono B9.size)⟩
end Go.Proofs.Ytadoobkieehajaa
