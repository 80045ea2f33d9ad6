/- The contracts of what the statements call beside: Go's math, the kit's comparison, sums, the chapter's examples. -/
import Derived.Test.YtajipgcnpemifaaO
namespace Go.Proofs.Ytajipgcnpemifaa
open Go.RowKit Ieee

set_option maxHeartbeats 1000000 in
theorem sides_bad (z : Int) (h : BadLaw z) (x y u : Nat) (w : World) :
    Calls Try.prog 14 #[.int .i64 z, .float .f64 x, .float .f64 y, .float .f64 u] w fun e w' => e = .returned (.tuple #[.float .f64 0, .float .f64 0, .int .i64 2]) ∧ w = w' := by
  rcases h with h | h
  · go_enter Try.func14, Try.ntmps14
    go_wp2_with fail
    go_ret3
    exact ⟨rfl, rfl⟩
  · have h1 : ¬ z < 1 := by omega
    go_enter Try.func14, Try.ntmps14
    go_wp2_with fail
    go_ret3
    exact ⟨rfl, rfl⟩

theorem mnan_any (w : World) : Calls Try.prog 32 #[] w fun e w' => e = .returned (.float .f64 nanb) ∧ w = w' := by
  go_enter Try.func32, Try.ntmps32
  go_wp2
  go_ret
  exact ⟨rfl, rfl⟩

theorem minf_any (w : World) : Calls Try.prog 30 #[.int .i64 1] w fun e w' => e = .returned (.float .f64 9218868437227405312) ∧ w = w' := by
  go_enter Try.func30, Try.ntmps30
  go_wp2
  go_ret
  exact ⟨rfl, rfl⟩

theorem low_any (w : World) : Calls Try.prog 29 #[.float .f64 0, .float .f64 13830554455654793216] w fun e w' => e = .returned (.float .f64 9223372036854775808) ∧ w = w' := by
  have h1 := and_sign 13830554455654793216 (by decide)
  have h2 := andnot_sign 0 (by decide)
  have e1 : negq 13830554455654793216 = true := by decide
  rw [e1, if_pos rfl] at h1
  have h1' : bits BinOp.and IntKind.u64 13830554455654793216 9223372036854775808 = 9223372036854775808 := h1
  have h2' : bits BinOp.andNot IntKind.u64 0 9223372036854775808 = 0 := h2
  have h3 : bits BinOp.or IntKind.u64 0 9223372036854775808 = 9223372036854775808 := by
    rw [u64_or _ _ (by omega) (by omega) (by omega) (by omega)]; rfl
  clear h1 h2 e1
  go_enter Try.func29, Try.ntmps29
  go_wp2
  go_ret
  exact ⟨rfl, rfl⟩

/-- Whether two numbers are the same, or both NaNs. -/
def samef (x y : Nat) : Bool := x == y || (nanq x && nanq y)

theorem samefloat_any (x y : Nat) (w : World) (hx : x < 2 ^ 64) (hy : y < 2 ^ 64) :
    Calls Try.prog 33 #[.float .f64 x, .float .f64 y] w fun e w' => e = .returned (.bool (samef x y)) ∧ w = w' := by
  have h1 := ne_self x hx
  have h2 := ne_self y hy
  unfold samef
  by_cases hxy : x = y
  · have h : ((x : Int) == (y : Int)) = true := by rw [hxy]; simp
    have hb : (x == y) = true := by rw [hxy]; simp
    rw [hb, Bool.true_or]
    have Hx := Lib.hid hxy
    clear hxy hb h1 h2
    go_enter Try.func33, Try.ntmps33
    go_wp2
    go_ret
    exact ⟨rfl, rfl⟩
  · have h : ((x : Int) == (y : Int)) = false := by rw [beq_eq_false_iff_ne]; omega
    have hb : (x == y) = false := by simpa using hxy
    rw [hb, Bool.false_or]
    have Hx := Lib.hid hxy
    clear hxy hb
    cases hn : nanq x <;> rw [hn] at h1 <;> clear hn
    · rw [Bool.false_and]
      go_enter Try.func33, Try.ntmps33
      go_wp2
      go_ret
      exact ⟨rfl, rfl⟩
    · rw [Bool.true_and]
      cases hm : nanq y <;> rw [hm] at h2 <;> clear hm
      · go_enter Try.func33, Try.ntmps33
        go_wp2
        go_ret
        exact ⟨rfl, rfl⟩
      · go_enter Try.func33, Try.ntmps33
        go_wp2
        go_ret
        exact ⟨rfl, rfl⟩

theorem is_true (j : Nat) (h1 : 1 ≤ j) (h7 : j ≤ 7) (x y v : Nat) (w : World) (hx : x < 2 ^ 64) (hy : y < 2 ^ 64) (hv : v < 2 ^ 64) (hs : samef (dob j x y) v = true) :
    Calls Try.prog 31 #[.int .u8 j, .float .f64 x, .float .f64 y, .float .f64 v] w fun e w' => e = .returned (.bool true) ∧ Below w.heap.size w w' := by
  have hd := dob_lt j x y hx hy
  have Hs := Lib.hid hs
  clear hs
  go_enter Try.func31, Try.ntmps31
  go_wp2_with fail
  refine (apply_good j h1 h7 x y _ hx hy).mono ?_
  rintro e w1 ⟨rfl, hB⟩
  go_wp2_with fail
  refine (samefloat_any _ _ _ hd hv).mono ?_
  rw [Hs.out]
  rintro e _ ⟨rfl, rfl⟩
  go_wp2_with fail
  go_ret
  exact ⟨rfl, hB⟩

/-- The statements' own do. -/
theorem do10_any (j : Nat) (h1 : 1 ≤ j) (h7 : j ≤ 7) (x y : Nat) (w : World) (hx : x < 2 ^ 64) (hy : y < 2 ^ 64) :
    Calls Try.prog 10 #[.int .u8 j, .float .f64 x, .float .f64 y] w fun e w' => e = .returned (.float .f64 (dob j x y)) ∧ Below w.heap.size w w' := by
  go_enter Try.func10, Try.ntmps10
  go_wp2_with fail
  refine (apply_good j h1 h7 x y _ hx hy).mono ?_
  rintro e w1 ⟨rfl, hB⟩
  go_wp2_with fail
  go_ret
  exact ⟨rfl, hB⟩

/-- A slice of numbers. -/
structure Fls (w : World) (ad : Option Addr) (l : List Nat) : Prop where
  at_ : l = [] ∨ ∃ b o, ad = some ⟨b, o, none⟩ ∧ b < w.heap.size ∧ ∀ i (h : i < l.length), w.cell? ⟨b, o + i, none⟩ = some (.float .f64 l[i])
  fits : ∀ x ∈ l, x < 2 ^ 64

theorem Fls.nil (w : World) (ad : Option Addr) : Fls w ad [] := ⟨.inl rfl, fun _ h => by cases h⟩
theorem Fls.below {w w' : World} {ad : Option Addr} {l : List Nat} (h : Fls w ad l) (hB : Below w.heap.size w w') : Fls w' ad l := by
  refine ⟨?_, h.fits⟩
  rcases h.at_ with h | ⟨b, o, rfl, hb, hc⟩
  · exact .inl h
  · exact .inr ⟨b, o, rfl, Nat.lt_of_lt_of_le hb hB.size, fun i hi => (hB.cell (p := ⟨b, o + i, none⟩) hb).trans (hc i hi)⟩

/-- The sum of numbers, from the left. -/
def sumb (l : List Nat) : Nat := l.foldl (dob 2) 9223372036854775808

theorem sumb_snoc (l : List Nat) (x : Nat) : sumb (l ++ [x]) = dob 2 (sumb l) x := by unfold sumb; rw [List.foldl_append]; rfl
theorem dob2_lt (x y : Nat) : dob 2 x y < 2 ^ 64 := fop_lt _ _ _
theorem sumb_lt (l : List Nat) : sumb l < 2 ^ 64 := by
  rcases List.eq_nil_or_concat l with rfl | ⟨r, x, rfl⟩
  · decide
  · rw [List.concat_eq_append, sumb_snoc]; exact dob2_lt _ _

theorem take_next (l : List Nat) (k : Nat) (h : k < l.length) : l.take (k + 1) = l.take k ++ [l[k]] := by
  rw [List.take_succ_eq_append_getElem h]

set_option maxHeartbeats 1000000 in
theorem sum_any (ad : Option Addr) (cap : Nat) (l : List Nat) (w : World) (hl : Fls w ad l) (hm : l.length ≤ maxLen) :
    Calls Try.prog 18 #[.slice ad l.length cap] w fun e w' => e = .returned (.float .f64 (sumb l)) ∧ Below w.heap.size w w' := by
  unfold maxLen at hm
  obtain ⟨n, hn⟩ : ∃ n, n = l.length := ⟨_, rfl⟩
  rw [← hn] at hm ⊢
  have Hn := Lib.hid hn
  clear hn
  go_enter Try.func18, Try.ntmps18
  go_wp2_with fail
  refine (zero_any _).mono ?_
  rintro e _ ⟨rfl, rfl⟩
  go_wp2_with fail
  go_loopw [3, 9] (fun s i wr => ∃ k : Nat, k ≤ n ∧ i = .int .i64 k ∧ s = .float .f64 (sumb (l.take k)) ∧ Fls wr ad l ∧ Below w.heap.size w wr) (fun _ i _ => n - (intOf i).toNat)
  case atStart => exact ⟨0, Nat.zero_le _, rfl, rfl, hl, Below.refl _ _⟩
  case round =>
    obtain ⟨k, hk, rfl, rfl, hF, hB⟩ := hrel
    by_cases hlt : k < n
    · have hkl : k < l.length := by rw [← Hn.out]; exact hlt
      have hxl := hF.fits l[k] (List.getElem_mem hkl)
      have hsl := sumb_lt (l.take k)
      have HT := Lib.hid (take_next l k hkl)
      rcases hF.at_ with h0 | ⟨b, o, rfl, hb, hc⟩
      · exfalso; rw [h0] at hkl; simp at hkl
      have hck := hc k hkl
      clear hc
      generalize hx : l[k] = x at hck hxl HT
      have Hx := Lib.hid hx
      clear hx
      generalize hs : sumb (l.take k) = s at hsl ⊢
      have Hs := Lib.hid hs
      clear hs
      go_wp2_with fail
      refine (do_2 _ _ _ hsl hxl).mono ?_
      rintro e w1 ⟨rfl, hN⟩
      go_wp2_with fail
      go_roundw
      case rel => exact ⟨k + 1, by omega, by go_num, by rw [HT.out, sumb_snoc, Hs.out], hF.below hN, hB.trans (hN.mono hB.size)⟩
      case measure => simp [intOf]; omega
    · go_wp2_with fail
      go_ret
      refine ⟨?_, hB⟩
      have e1 : k = n := by omega
      have e2 : l.take k = l := List.take_of_length_le (by rw [← Hn.out]; omega)
      show Ending.returned (.float .f64 (sumb (l.take k))) = _
      rw [e2]
end Go.Proofs.Ytajipgcnpemifaa
