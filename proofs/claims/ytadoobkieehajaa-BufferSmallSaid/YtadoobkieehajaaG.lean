/- The iterator of a buffer. -/
import Derived.Test.YtadoobkieehajaaF
import Derived.Test.YtadoobkieehajaaR
import Derived.RangeFuncBox
import Derived.RangeFuncLeaves
import Derived.Shelf.Abstract
import Derived.OwnWalkIn
import Derived.TacticsInMore
import Derived.LoopNIn
import Derived.LoopIn
import Derived.Maps.AppendAt
namespace Go.Proofs.Ytadoobkieehajaa
open Go.RowKit Go.Shelf

attribute [local go_sem] Oper.semAt_some

/-- What has come when k rounds are over. -/
def upto {α : Type} (f : Nat → α) (k : Nat) : List α := (List.range k).map f
theorem upto_succ {α : Type} (f : Nat → α) (k : Nat) : upto f (k + 1) = upto f k ++ [f k] := by simp [upto, List.range_succ]
theorem upto_length {α : Type} (f : Nat → α) (k : Nat) : (upto f k).length = k := by simp [upto]

/-- Two blocks lie as they lay. -/
def Kp2 (a b : Nat) (W W' : World) : Prop := W'.heap[a]? = W.heap[a]? ∧ W'.heap[b]? = W.heap[b]?
theorem Kp2.refl (a b : Nat) (W : World) : Kp2 a b W W := ⟨rfl, rfl⟩
theorem Kp2.trans {a b : Nat} {A B C : World} (h : Kp2 a b A B) (k : Kp2 a b B C) : Kp2 a b A C := ⟨k.1.trans h.1, k.2.trans h.2⟩
theorem Kp2.drewN {a b : Nat} {A B : World} (h : Kp2 a b A B) (n : Nat) : Kp2 a b A (B.drewN n) := ⟨by rw [World.heap_drewN]; exact h.1, by rw [World.heap_drewN]; exact h.2⟩
theorem Kp2.of_below {a b n : Nat} {A B : World} (h : Below n A B) (ha : a < n) (hb : b < n) : Kp2 a b A B := ⟨h.block a ha, h.block b hb⟩
theorem Kp2.setCell {a b c i : Nat} (W : World) (v : Value) (ha : c ≠ a) (hb : c ≠ b) : Kp2 a b W (W.setCell ⟨c, i, none⟩ v) := ⟨heap_far ha, heap_far hb⟩
theorem Kp2.of_grown {a b : Nat} {row : Option Nat} {A B : World} (g : A.grownBy B row) (ha : a < A.heap.size) (hb : b < A.heap.size) (h1 : some a ≠ row) (h2 : some b ≠ row) : Kp2 a b A B := ⟨g.block a ha h1, g.block b hb h2⟩
theorem kp2_b {a b n : Nat} (ha : a < n) (hb : b < n) : ∀ (W : World) (l : Nat) (o o' : Obj), n ≤ l → W.heap[l]? = some o → o.isCells = false → o.isWalk = false → Kp2 a b W (W.putObj l o') :=
  fun W l o o' hl _ _ _ => ⟨World.putObj_heap_other (by omega), World.putObj_heap_other (by omega)⟩

/-- The pairs that the iterator yields. -/
def item (l : List UInt8) (i : Nat) (k : Nat) : Nat × UInt8 := (i + k, l.getD (i + k) 0)
def enc2 (x : Nat × UInt8) : Array Value := #[.int .i64 x.1, .int .u8 x.2.toNat]

theorem all_in (p : Option Addr) (i : Int) (w : World) :
    Calls Try.prog 31 #[.pointer p, .int .i64 i] w fun e w' => e = .returned (.func (.func 37) #[] #[.pointer (some ⟨w.heap.size + 1, 0, none⟩), .pointer (some ⟨w.heap.size, 0, none⟩)]) ∧
      (w.alloc (.cells #[.pointer p] 25)).alloc (.cells #[.int .i64 i] 3) = w' := by
  go_enter Try.func31, Try.ntmps31
  go_wp2
  go_ret
  exact ⟨rfl, rfl⟩

set_option maxRecDepth 100000 in
set_option maxHeartbeats 1000000 in
theorem all1_in (n : Nat) (lr Bf Bb a : Nat) {s o : Nat} {l : List UInt8} (i : Nat) (hi : i ≤ l.length) (J Jx : Nat → World → Prop)
    (hY : ∀ k W, k < l.length - i → J k W → YieldAt Fence.wide (n - 1) Try.prog lr (enc2 (item l i k)) W fun e W' =>
      (e = .returned (.bool true) ∧ J (k + 1) W' ∧ Kp2 a Bb W W') ∨ (e = .returned (.bool false) ∧ Jx (k + 1) W'))
    (hJ : ∀ k W m, J k W → J k (W.drewN m))
    (W : World) (hBf : W.cell? ⟨Bf, 0, none⟩ = some (.int .i64 i)) (hBb : W.cell? ⟨Bb, 0, none⟩ = some (.pointer (some ⟨a, 0, none⟩))) (hb : IsBuf W a s o l) (h0 : J 0 W) :
    CallsIn Fence.wide n Try.prog 37 #[.func (.yield lr) #[] #[], .pointer (some ⟨Bf, 0, none⟩), .pointer (some ⟨Bb, 0, none⟩)] W fun e W' => (∃ v, e = .returned v) ∧
      (J (l.length - i) W' ∨ (∃ k, k ≤ l.length - i ∧ Jx k W')) := by
  have hs := hb.lo
  have hs' := hb.hi
  have hfit := hb.fits
  refine callsIn_of_wp Try.func37 rfl trivial ?_ rfl
  simp only [Try.ntmps37, List.size_toArray, List.length_cons, List.length_nil, Nat.reduceAdd, Nat.reduceSub, Array.replicate_succ, Array.replicate_zero, List.push_toArray, List.append_toArray, List.nil_append, List.cons_append]
  gi_wp2
  gi_loopw [4] (fun v wr => ∃ j : Nat, i ≤ j ∧ j ≤ l.length ∧ v = .int .i64 j ∧ J (j - i) wr ∧ Kp2 a Bb W wr)
    (fun v _ => l.length - (intOf v).toNat)
  case atStart => exact ⟨i, Nat.le_refl _, hi, rfl, by rw [Nat.sub_self]; exact h0, Kp2.refl _ _ _⟩
  case round =>
    obtain ⟨j, hij, hj, rfl, hJs, hnx⟩ := hrel
    have hbr : IsBuf wr a s o l := hb.of_block hnx.1
    have hcb : wr.cell? ⟨Bb, 0, none⟩ = some (.pointer (some ⟨a, 0, none⟩)) := (World.cell?_of_block (a := ⟨Bb, 0, none⟩) hnx.2).trans hBb
    obtain ⟨r, f, hr, hf, x⟩ := hbr.ex
    have hch := hr.cheld
    by_cases hlt : j < l.length
    · have hp : (f + j) % s < 256 := Nat.lt_of_lt_of_le (Nat.mod_lt _ (by omega)) hs'
      have hx := x j hlt
      clear x
      obtain ⟨p, hpe⟩ : ∃ p, p = (f + j) % s := ⟨_, rfl⟩
      rw [← hpe] at hp hx
      have HP := Lib.hid hpe
      clear hpe
      have HX := Lib.hid hx
      clear hx
      have hp1 : (p : Int) < 256 := by omega
      have hcr := hr.ring _ hp
      gi_wp2
      refine regionIn_ord (r := none) [] [0, 1, 2, 3, 4, 5, 6, 7, 8, 9] [(10, []), (11, [])] (fun _ _ => True) (by kernel_rfl) (by kernel_rfl) (by kernel_rfl) (fun _ _ => trivial) ?_
      simp only [pickK, pick, List.filterMap_cons, List.filterMap_nil, List.getElem?_toArray, List.getElem?_cons_zero, List.getElem?_cons_succ, Option.map_some]
      refine lates_nil ?_
      change wpQuiet _ _ _ _ [_, _, _, _, _, _, _, _, _, _] _
      repeat (go_big_quiet_step ((go_at_call 32; exact Calls.quiet_of (place_raw _ _ p _ (hr.drewN _) hs hs' hf (by omega) HP))))
      refine wpQuiet_nil ?_
      rintro _ ⟨nq, rfl⟩
      have hcr2 := (hr.drewN nq).ring _ hp
      have e : item l i (j - i) = (j, l[j]) := by
        unfold item
        rw [show i + (j - i) = j by omega]
        simp [hlt]
      obtain ⟨fn, tmps, assign, body, hy, hR⟩ := hY (j - i) _ (by omega) (hJ _ _ nq hJs)
      rw [e] at hy
      clear e
      rw [HX.out]
      refine tail_stepIn (r := none) (n := n) (fun K hK => ?_)
      dsimp only [enc2] at hy
      change wpListIn Fence.wide _ _ _ _ _ _ _
      gi_wp2
      refine ⟨fun h => by simp [Fence.wide] at h, hR.mono ?_⟩
      have hnx2 : Kp2 a Bb W (wr.drewN nq) := hnx.drewN nq
      rintro e W3 (⟨rfl, hJ3, hk3⟩ | ⟨rfl, hJx3⟩)
      · have hnx3 := hnx2.trans hk3
        gi_wp2
        refine hK _ _ keep0 ?_
        clear hK K
        refine tail_step fun K hK => ?_
        go_wp2
        refine hK _ _ keep0 ?_
        clear hK K
        refine tail_nil ?_
        gi_wp2
        go_roundw
        case rel =>
          refine ⟨j + 1, by omega, by omega, by go_num, ?_, hnx3⟩
          rw [show j + 1 - i = (j - i) + 1 by omega]
          exact hJ3
        case measure => simp [intOf]; omega
      · gi_wp2
        refine hK _ _ keep0 ?_
        clear hK K
        refine tail_step fun K hK => ?_
        go_wp2
        refine hK _ _ keep0 ?_
        clear hK K
        refine tail_nil ?_
        gi_wp2
        refine bodyPost_ret (results_none rfl _ _ _) rfl ?_
        exact ⟨⟨_, rfl⟩, .inr ⟨j - i + 1, by omega, hJx3⟩⟩
    · obtain rfl : j = l.length := by omega
      have hge : ¬ ((l.length : Int) < l.length) := by omega
      gi_wp2
      go_end0
      exact ⟨⟨_, rfl⟩, .inl hJs⟩

theorem all_stops (n : Nat) (Bf Bb a : Nat) {s o : Nat} {l : List UInt8} (i : Nat) (w : World) (hi : i ≤ l.length) (ha : a < w.heap.size) (hbb : Bb < w.heap.size) (hbf : Bf < w.heap.size)
    (hBf : w.cell? ⟨Bf, 0, none⟩ = some (.int .i64 i)) (hBb : w.cell? ⟨Bb, 0, none⟩ = some (.pointer (some ⟨a, 0, none⟩))) (hb : IsBuf w a s o l) :
    SeqStopsK Fence.wide n Try.prog 37 #[.pointer (some ⟨Bf, 0, none⟩), .pointer (some ⟨Bb, 0, none⟩)] enc2 (Kp2 a Bb) (fun ys => ys = upto (item l i) (l.length - i)) (fun pre => ∃ k, k ≤ l.length - i ∧ pre = upto (item l i) k) (l.length - i) w := fun lr J Jx W hW hJa _ hY h0 =>
  (all1_in n lr Bf Bb a i hi (fun k => J (upto (item l i) k)) (fun k => Jx (upto (item l i) k)) (fun k W hk hj => by rw [upto_succ]; exact hY _ _ W hj (by rw [upto_length]; exact hk))
    (fun k W m h => hJa _ W (W.drewN m) none h (grown_drewN _ _ _) (fun r e => by cases e)) W
    ((hW.cell (p := ⟨Bf, 0, none⟩) hbf).trans hBf) ((hW.cell (p := ⟨Bb, 0, none⟩) hbb).trans hBb) (hb.of_block (hW.block a ha)) h0).mono
    fun e W' ⟨he, h⟩ => ⟨he, h.imp (fun h => ⟨_, rfl, h⟩) (fun ⟨k, hk, h⟩ => ⟨_, ⟨k, hk, rfl⟩, h⟩)⟩

theorem all_iter (Bf Bb a : Nat) {s o : Nat} {l : List UInt8} (i : Nat) (w : World) (hi : i ≤ l.length) (ha : a < w.heap.size) (hbb : Bb < w.heap.size) (hbf : Bf < w.heap.size)
    (hBf : w.cell? ⟨Bf, 0, none⟩ = some (.int .i64 i)) (hBb : w.cell? ⟨Bb, 0, none⟩ = some (.pointer (some ⟨a, 0, none⟩))) (hb : IsBuf w a s o l) :
    Iter Try.prog 37 #[.pointer (some ⟨Bf, 0, none⟩), .pointer (some ⟨Bb, 0, none⟩)] (l.length - i) (fun k => enc2 (item l i k)) (Kp2 a Bb) w := fun m lr J Jx W hW hJ hY h0 =>
  (all1_in m lr Bf Bb a i hi J (fun _ => Jx) hY hJ W
    ((hW.cell (p := ⟨Bf, 0, none⟩) hbf).trans hBf) ((hW.cell (p := ⟨Bb, 0, none⟩) hbb).trans hBb) (hb.of_block (hW.block a ha)) h0).mono
    fun e W' ⟨he, h⟩ => ⟨he, h.imp id (fun ⟨k, hk, h⟩ => h)⟩
end Go.Proofs.Ytadoobkieehajaa
