/- The contracts of bytes.Equal, bytes.HasPrefix, slices.Clone and filled. -/
import Derived.Test.YtadoobkieehajaaJ
import Derived.Lib.ConvBytes
import Derived.Laws.BytesArg
import Derived.Lib.Bytes
import Derived.Lib.SliceRun
namespace Go.Proofs.Ytadoobkieehajaa
open Go.RowKit Go.Shelf

theorem ofNum_toNat (c : UInt8) : UInt8.ofNat ((c.toNat : Int)).toNat = c := by simp

theorem strOf_map (xs : List UInt8) : strOfNums (xs.map fun c => (c.toNat : Int)) = ⟨xs.toArray⟩ := by
  simp [strOfNums, Function.comp_def]

theorem slc_convert {w : World} {ad : Option Addr} {xs : List UInt8} (h : Slc w ad xs) (n c : Nat) (hn : xs.length = n) :
    (convert 23 9 (.slice ad n c)).run Try.prog w = .ok (.string ⟨xs.toArray⟩) w := by
  subst hn
  rcases h with rfl | ⟨b, off, rfl, _, hc⟩
  · simp only [List.length_nil]
    rw [run_convert_bytes_string w 23 9 5 _ 0 c Try.underlying23 Try.underlying5 Try.underlying9]
    cases ad <;> simp [Conv.bytesToString, loadCells]
    all_goals rfl
  · rw [← strOf_map]
    refine run_convert_bytes_arg (P := Try.prog) w 23 5 Try.underlying23 Try.underlying5 b off xs.length c (xs.map fun c => (c.toNat : Int)) (by simp) (fun i hi => ?_) 9 Try.underlying9
    rw [hc i (by simpa using hi)]
    have : i < xs.length := by simpa using hi
    simp [List.getD, this]

theorem slc_of_owns {w : World} {base n cap : Nat} {ad : Option Addr} {l : List UInt8} (h : w.ownsRow base 5 1 (.slice ad n cap) n (l.map B)) : Slc w ad l ∧ l.length = n := by
  have hl : l.length = n := by have := h.1; simpa using this
  refine ⟨?_, hl⟩
  rcases h.2 with ⟨_, h0⟩ | ⟨g, cap', cur, hv, hb, hh, h1, h2, h3, h4⟩
  · exact .inl (List.eq_nil_of_length_eq_zero (hl.trans h0))
  · simp only [Value.slice.injEq] at hv
    obtain ⟨rfl, _⟩ := hv
    refine .inr ⟨g, 0, rfl, (Array.getElem?_eq_some_iff.1 hh).1, fun j hj => ?_⟩
    have e : (cur.toList.take (n * 1))[j]? = (l.map B)[j]? := by rw [h4]
    rw [List.getElem?_take_of_lt (by omega)] at e
    simp [World.cell?, hh]
    simpa [hj] using e

theorem toList_mk (xs : List UInt8) : (⟨xs.toArray⟩ : ByteArray).toList = xs := by rw [Lib.toList_data]

theorem equal_any (x y : List UInt8) (ad1 ad2 : Option Addr) (n m c1 c2 : Nat) (w : World) (hn : x.length = n) (hm : y.length = m) (h1 : Slc w ad1 x) (h2 : Slc w ad2 y) :
    Calls Try.prog 19 #[.slice ad1 n c1, .slice ad2 m c2] w fun e w' => e = .returned (.bool (x == y)) ∧ w = w' := by
  have k1 := slc_convert h1 n c1 hn
  have k2 := slc_convert h2 m c2 hm
  go_enter Try.func19, Try.ntmps19
  go_wp2
  go_ret
  simp only [toList_mk]
  exact ⟨rfl, trivial⟩

theorem prefix_any (x y : List UInt8) (ad1 ad2 : Option Addr) (n m c1 c2 : Nat) (w : World) (hn : x.length = n) (hm : y.length = m) (hc : n ≤ c1) (hn' : n ≤ 140737488355328) (h1 : Slc w ad1 x) (h2 : Slc w ad2 y) :
    Calls Try.prog 24 #[.slice ad1 n c1, .slice ad2 m c2] w fun e w' => e = .returned (.bool (decide (m ≤ n) && (x.take m == y))) ∧ w = w' := by
  by_cases h : m ≤ n
  · have h' : (m : Int) ≤ n := by omega
    have k1 : Slc w ad1 (x.take m) := by
      rcases h1 with rfl | ⟨b, off, rfl, hb, hc⟩
      · exact .inl (by simp)
      · exact .inr ⟨b, off, rfl, hb, fun j hj => by rw [hc j (by simp at hj; omega)]; simp⟩
    have k3 := slc_convert k1 m c1 (by simp; omega)
    have k4 := slc_convert h2 m c2 hm
    go_enter Try.func24, Try.ntmps24
    go_wp2
    go_ret
    refine ⟨?_, rfl⟩
    simp [toList_mk, h]
  · have h' : ¬ (m : Int) ≤ n := by omega
    go_enter Try.func24, Try.ntmps24
    go_wp2
    go_ret
    refine ⟨?_, rfl⟩
    simp [h]

theorem clone_any (x : List UInt8) (ad : Option Addr) (n c : Nat) (w : World) (hn : x.length = n) (hbig : n ≤ 140737488355328) (h : Slc w ad x) :
    Calls Try.prog 25 #[.slice ad n c] w fun e w' => ∃ v', e = .returned v' ∧ w'.ownsRow w.heap.size 5 1 v' n (x.map B) ∧ Below w.heap.size w w' := by
  obtain ⟨i0, hi, hz0, hz1, hz2⟩ := info_parts Try.info5
  have q23 : ∀ (w : World) (a : Option Addr) (n c n' c' : Nat), (binOp .eql 23 (.slice a n c) (.slice none n' c')).run Try.prog w = .ok (.bool a.isNone) w := fun w a n c n' c' => Lib.run_eql_slice_nil w _ _ a n c n' c' Try.underlying23
  subst hn
  cases ad with
  | none =>
    rcases h with rfl | ⟨b, off, h, _⟩
    · go_enter Try.func25, Try.ntmps25
      go_wp2
      go_ret
      exact ⟨_, rfl, World.ownsRow_nil w _ _ _, Below.refl _ _⟩
    · cases h
  | some ad =>
    have hcell : Hid (∀ j (h : j < x.length), w.cell? (ad.add j) = some (B x[j])) := Lib.hid (by
      rcases h with rfl | ⟨b, off, e, _, hc⟩
      · intro j hj; simp at hj
      · cases e; intro j hj; have := hc j hj; by_cases e : j = 0 <;> simpa [Addr.add, e] using this)
    go_enter Try.func25, Try.ntmps25
    go_wp2_with (at_builtin; refine wpList_append_own _ rfl _ _ 23 rfl w.heap.size 5 i0 (.int .u8 0) 1 1 Try.underlying23 hi hz0 hz1 hz2 rfl (by decide) _ _ _ rfl (World.ownsRow_made w #[] 0 (Nat.le_refl _) (Nat.zero_le _) rfl) ad x.length c (x.map B) rfl ?qc1 ?qc2 ?qc3 ?qc4 ?qc5 ?qc6 ?_)
    case qc1 => simp
    case qc2 =>
      intro j u hj
      have hjn : j < x.length := by
        have := (List.getElem?_eq_some_iff.1 hj).1
        simpa using this
      refine Lib.cell?_alloc_some _ ?_
      rw [hcell.out j hjn]
      simp [hjn] at hj
      rw [hj]
    case qc3 => intro u hu; obtain ⟨x, _, rfl⟩ := List.mem_map.1 hu; rfl
    case qc4 => unfold maxLen; omega
    case qc5 => omega
    case qc6 => simp
    intro v' w1 hown hgrow hnil
    go_wp2
    go_ret
    refine ⟨v', rfl, by simpa using hown, ?_⟩
    exact ((Below.refl _ w).alloc (Nat.le_refl _) _).grown hgrow (by simp) (by intro k hk; simp [Value.ownBlock] at hk; omega)

/-- The bytes of a string. -/
def bs (s : ByteArray) : List UInt8 := s.data.toList

set_option maxRecDepth 100000 in
set_option maxHeartbeats 1000000 in
theorem filled_any (s o : Nat) (t : ByteArray) (w : World) (h1 : 2 ≤ s) (h2 : s ≤ 256) (h3 : o + t.size ≤ 281474976710656) (h4 : t.size ≤ s) :
    Calls Try.prog 28 #[.int .i64 s, .int .i64 o, .string t] w fun e w' => e = .returned (.tuple #[.pointer (some ⟨w.heap.size, 0, none⟩), .bool true]) ∧ IsBuf w' w.heap.size s o (bs t) ∧ w.grownBy w' none := by
  have hlen : (bs t).length = t.size := rfl
  have hcv : ∀ w : World, (convert 9 23 (.string t)).run Try.prog w = .ok (.slice (some ⟨w.heap.size, 0, none⟩) t.size (grownCap w t.size 0 5)) (Lib.bytesWorld w 5 t) := fun w => Lib.run_convert_string_bytes w 9 23 5 t Try.underlying9 Try.underlying23 Try.underlying5
  go_enter Try.func28, Try.ntmps28
  go_wp2_with fail
  refine (new_ok s o w h1 h2 (by omega)).mono ?_
  rintro e w1 ⟨rfl, hb1, g1⟩
  go_wp2_with fail
  have hsz1 : w.heap.size < w1.heap.size := hb1.lt
  have hz : (Lib.bytesWorld w1 5 t).heap.size = w1.heap.size + 1 := Lib.bytesWorld_size _ _ _
  have hcell : Hid (∀ j (h : j < t.size), (Lib.bytesWorld w1 5 t).cell? ⟨w1.heap.size, j, none⟩ = some (B ((bs t)[j]'h))) := Lib.hid (fun j h => by
    rw [Lib.bytesWorld_cell w1 5 t j h]
    have h' : j < t.data.toList.length := h
    rw [List.getD_eq_getElem?_getD, List.getElem?_eq_getElem h']
    rfl)
  have hb2 : IsBuf (Lib.bytesWorld w1 5 t) w.heap.size s o [] := hb1.of_block (Lib.bytesWorld_at_old _ _ _ _ hsz1)
  have hB2 : Below w.heap.size w (Lib.bytesWorld w1 5 t) := (below_of_grown g1).trans ⟨rfl, rfl, rfl, by omega, fun k hk => Lib.bytesWorld_at_old _ _ _ _ (by omega)⟩
  generalize Lib.bytesWorld w1 5 t = W at hz hcell hb2 hB2 ⊢
  have ht0 : (t.size : Int) ≤ 256 := by omega
  go_loopw [27] (fun v wr => ∃ j : Nat, j ≤ t.size ∧ v = .int .i64 j ∧ IsBuf wr w.heap.size s o ((bs t).take j) ∧ wr.heap[w1.heap.size]? = W.heap[w1.heap.size]? ∧ Below w.heap.size w wr ∧ W.heap.size ≤ wr.heap.size)
    (fun v _ => t.size - (intOf v).toNat)
  case atStart => exact ⟨0, Nat.zero_le _, rfl, by simpa using hb2, rfl, hB2, Nat.le_refl _⟩
  case round =>
    obtain ⟨j, hj, rfl, hbr, hblk, hBr, hszr⟩ := hrel
    by_cases hlt : j < t.size
    · have hlt' : (j : Int) < t.size := by omega
      have hcj := (World.cell?_of_block (a := ⟨w1.heap.size, j, none⟩) hblk).trans (hcell.out j hlt)
      have hl : ((bs t).take j).length = j := by rw [List.length_take, hlen]; omega
      go_wp2_with fail
      refine (put_ok _ _ _ hbr (by rw [hl]; omega) (by rw [hl]; omega)).mono ?_
      rintro e w2 ⟨rfl, hb2, g2⟩
      go_wp2_with fail
      go_roundw
      case rel =>
        refine ⟨j + 1, by omega, by go_num, ?_, (g2.block _ (by omega) (by simp; omega)).trans hblk, below_grown hBr g2 hBr.size (Nat.le_refl _), Nat.le_trans hszr g2.size⟩
        rw [List.take_succ_eq_append_getElem (by omega)]
        exact hb2
      case measure => simp [intOf]; omega
    · obtain rfl : j = t.size := by omega
      have hge : ¬ ((t.size : Int) < t.size) := by omega
      go_wp2_with fail
      go_ret2
      rw [List.take_of_length_le (by omega)] at hbr
      exact ⟨rfl, hbr, grown_of_below _ hBr⟩
end Go.Proofs.Ytadoobkieehajaa
