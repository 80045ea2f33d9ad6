/- The walk of BufferDoes. -/
import Derived.Test.YtadoobkieehajaaZf
namespace Go.Proofs.Ytadoobkieehajaa
open Go.RowKit Go.Shelf

theorem does_any (s o : Int) (al : Option Addr) (len cap : Nat) (i : Int) (w : World) (hA : ActsAt w al len) (hlen : len ≤ 80000) :
    Calls Try.prog 27 #[.int .i64 s, .int .i64 o, .slice al len cap, .int .i64 i] w fun e w' => e = .returned (.bool true) ∧ Below w.heap.size w w' := by
  by_cases h : s < 2 ∨ 256 < s ∨ o < 0 ∨ 281474976710656 < o
  · exact does_bad s o al len cap i w h
  · obtain ⟨s', rfl⟩ : ∃ n : Nat, s = n := ⟨s.toNat, by omega⟩
    obtain ⟨o', rfl⟩ : ∃ n : Nat, o = n := ⟨o.toNat, by omega⟩
    exact does_good s' o' al len cap i w (by omega) (by omega) (by omega) hA hlen

def ActsIn (w : World) (al : Option Addr) (len : Nat) : Prop :=
  len = 0 ∨ ∃ blk off, al = some ⟨blk, off, none⟩ ∧ blk < w.heap.size ∧ ∀ i, i < len → ∃ kind c nn ax m cx xs, ActAt w blk (off + i * 4) kind c nn ax m cx xs

set_option maxRecDepth 100000 in
set_option maxHeartbeats 4000000 in
theorem buffer_does_walk (s o : Int) (al : Option Addr) (len cap : Nat) (i : Int) (w : World) (hA : ActsIn w al len) :
    Calls Try.prog 8 #[.int .i64 s, .int .i64 o, .slice al len cap, .int .i64 i] w fun e w' => e = .returned (.bool true) ∧ Below w.heap.size w w' := by
  rcases hA with rfl | ⟨blk, off, rfl, hblk, hacts⟩
  · go_enter Try.func8, Try.ntmps8
    go_wp2_with fail
    go_loopw [13] (fun v wr => v = .int .i64 0 ∧ w = wr) (fun _ _ => 0)
    case atStart => exact ⟨rfl, rfl⟩
    case round =>
      obtain ⟨rfl, rfl⟩ := hrel
      go_wp2_with fail
      refine (does_any s o al 0 cap i w (.inl rfl) (by omega)).mono ?_
      rintro e w1 ⟨rfl, B1⟩
      go_wp2_with fail
      refine (awake_any w1).mono ?_
      rintro e w2 ⟨rfl, g2⟩
      go_wp2_with fail
      go_ret
      exact ⟨rfl, B1.trans ((below_of_grown g2).mono B1.size)⟩
  · go_enter Try.func8, Try.ntmps8
    go_wp2_with fail
    go_loopw [13] (fun v wr => ∃ j : Nat, j ≤ len ∧ v = .int .i64 j ∧ (0 < j → len ≤ 600) ∧ (∀ i, i < j → ∃ kind c nn ax m cx xs, ActAt w blk (off + i * 4) kind c nn ax m cx xs ∧ m ≤ 1000) ∧ Below w.heap.size w wr)
      (fun v _ => len - (intOf v).toNat)
    case atStart => exact ⟨0, Nat.zero_le _, rfl, fun h => by omega, fun i hi => by omega, Below.refl _ _⟩
    case round =>
      obtain ⟨j, hj, rfl, h6, hok, hBr⟩ := hrel
      have HOK := Lib.hid hok
      have H6 := Lib.hid h6
      clear hok h6
      by_cases hlt : j < len
      · have hlt' : (j : Int) < len := by omega
        obtain ⟨kind, c, nn, ax, m, cx, xs, hact0⟩ := hacts j hlt
        have hact := hact0.below hBr hblk
        have HACT := Lib.hid hact0
        have HACTS := Lib.hid hacts
        clear hacts hact0
        have a0 := hact.c0
        have a1 := hact.c1
        have a2 := hact.c2
        have a3 := hact.c3
        have BA := hBr.alloc hBr.size (.cells #[.int .u8 kind.toNat, .int .u8 c.toNat, .int .i64 nn, .slice ax m cx] 57)
        by_cases hbig : (600 : Int) < len
        · go_wp2_with fail
          refine (awake_any _).mono ?_
          rintro e w2 ⟨rfl, g2⟩
          go_wp2_with fail
          go_ret
          exact ⟨rfl, BA.trans ((below_of_grown g2).mono BA.size)⟩
        · by_cases hm : (300 : Int) < m
          · go_wp2_with fail
            refine (awake_any _).mono ?_
            rintro e w2 ⟨rfl, g2⟩
            go_wp2_with fail
            go_ret
            exact ⟨rfl, BA.trans ((below_of_grown g2).mono BA.size)⟩
          · go_wp2_with fail
            go_roundw
            case rel =>
              refine ⟨j + 1, by omega, by go_num, fun _ => by omega, fun t ht => ?_, BA⟩
              by_cases e : t < j
              · exact HOK.out t e
              · obtain rfl : t = j := by omega
                exact ⟨kind, c, nn, ax, m, cx, xs, HACT.out, by omega⟩
            case measure => simp [intOf]; omega
      · obtain rfl : j = len := by omega
        have hge : ¬ ((j : Int) < j) := by omega
        have hAw : ActsAt wr (some ⟨blk, off, none⟩) j := .inr ⟨blk, off, rfl, Nat.lt_of_lt_of_le hblk hBr.size, fun t ht => by
          obtain ⟨kind, c, nn, ax, m, cx, xs, h, hm⟩ := HOK.out t ht
          exact ⟨kind, c, nn, ax, m, cx, xs, h.below hBr hblk, hm⟩⟩
        have HAW := Lib.hid hAw
        clear hAw hacts
        go_wp2_with fail
        refine (does_any s o _ j cap i wr HAW.out (by have := H6.out; omega)).mono ?_
        rintro e w1 ⟨rfl, B1⟩
        go_wp2_with fail
        refine (awake_any w1).mono ?_
        rintro e w2 ⟨rfl, g2⟩
        go_wp2_with fail
        go_ret
        exact ⟨rfl, (hBr.trans (B1.mono hBr.size)).trans ((below_of_grown g2).mono (hBr.trans (B1.mono hBr.size)).size)⟩
end Go.Proofs.Ytadoobkieehajaa
