/- Sums and least ones of lists: plain laws, and the contract of Least. -/
import Derived.Test.YtajipgcnpemifaaYb
import Derived.Maps.AppendAt
namespace Go.Proofs.Ytajipgcnpemifaa
open Go.RowKit Ieee

/-- The least of numbers, from a clean one on. -/
def leastFrom (c : Nat) (l : List Nat) : Nat := l.foldl (dob 6) c
def leastl : List Nat → Nat
  | [] => 0
  | a :: r => leastFrom (canonb a) (a :: r)

theorem dob6_canon (c b : Nat) (hc : c < 2 ^ 64) (hb : b < 2 ^ 64) : dob 6 c b = dob 6 c (canonb b) := by
  rcases nan_cases b with n | n
  · rw [dob6_nan c b (.inr n), dob6_nan c _ (.inr (by rw [canonb_nan n]; exact nanb_nan))]
  · rw [canonb_num n]
theorem dob6_self (a : Nat) (ha : a < 2 ^ 64) : dob 6 (canonb a) a = canonb a := by
  rw [dob6_canon _ _ (canonb_lt a ha) ha]
  exact same11 _ (clean_canon a ha)

theorem leastFrom_lt (c : Nat) (l : List Nat) (hc : c < 2 ^ 64) (hl : ∀ x ∈ l, x < 2 ^ 64) : leastFrom c l < 2 ^ 64 := by
  induction l generalizing c with
  | nil => exact hc
  | cons b r ih => exact ih (dob 6 c b) (dob_lt 6 _ _ hc (hl b (by simp))) (fun x hx => hl x (by simp [hx]))

theorem leastFrom_op (c d : Nat) (l : List Nat) (hc : c < 2 ^ 64) (hd : d < 2 ^ 64) (hl : ∀ x ∈ l, x < 2 ^ 64) : leastFrom (dob 6 c d) l = dob 6 c (leastFrom d l) := by
  induction l generalizing d with
  | nil => rfl
  | cons b r ih =>
    have hb := hl b (by simp)
    show leastFrom (dob 6 (dob 6 c d) b) r = dob 6 c (leastFrom (dob 6 d b) r)
    rw [min_assoc c d b hc hd hb]
    exact ih (dob 6 d b) (dob_lt 6 _ _ hd hb) (fun x hx => hl x (by simp [hx]))

theorem leastl_cons (a : Nat) (r : List Nat) (ha : a < 2 ^ 64) : leastl (a :: r) = leastFrom (canonb a) r := by
  show leastFrom (dob 6 (canonb a) a) r = _
  rw [dob6_self a ha]

theorem leastl_lt (l : List Nat) (hl : ∀ x ∈ l, x < 2 ^ 64) : leastl l < 2 ^ 64 := by
  cases l with
  | nil => decide
  | cons a r => exact leastFrom_lt _ _ (canonb_lt a (hl a (by simp))) hl

theorem leastl_append (p q : List Nat) (hp : p ≠ []) (hq : q ≠ []) (lp : ∀ x ∈ p, x < 2 ^ 64) (lq : ∀ x ∈ q, x < 2 ^ 64) : leastl (p ++ q) = dob 6 (leastl p) (leastl q) := by
  cases p with
  | nil => exact absurd rfl hp
  | cons a r =>
    cases q with
    | nil => exact absurd rfl hq
    | cons b s =>
      have ha := lp a (by simp)
      have hb := lq b (by simp)
      have hl := leastl_lt (a :: r) lp
      rw [List.cons_append, leastl_cons a _ ha]
      unfold leastFrom
      rw [List.foldl_append]
      have e : r.foldl (dob 6) (canonb a) = leastl (a :: r) := (leastl_cons a r ha).symm
      rw [e, leastl_cons b s hb]
      show leastFrom (dob 6 (leastl (a :: r)) b) s = _
      rw [dob6_canon _ b hl hb]
      exact leastFrom_op _ _ _ hl (canonb_lt b hb) (fun x hx => lq x (by simp [hx]))

theorem leastl_comm (p q : List Nat) (lp : ∀ x ∈ p, x < 2 ^ 64) (lq : ∀ x ∈ q, x < 2 ^ 64) : leastl (p ++ q) = leastl (q ++ p) := by
  by_cases hp : p = []
  · subst hp; rw [List.nil_append, List.append_nil]
  · by_cases hq : q = []
    · subst hq; rw [List.nil_append, List.append_nil]
    · rw [leastl_append p q hp hq lp lq, leastl_append q p hq hp lq lp, same3 _ _ (leastl_lt p lp) (leastl_lt q lq)]

theorem sumb_take (p q : List Nat) (i : Nat) (h : i < q.length) : sumb (p ++ q.take (i + 1)) = dob 2 (sumb (p ++ q.take i)) q[i] := by
  rw [take_next q i h, ← List.append_assoc, sumb_snoc]

theorem sumb_one (x : Nat) (hx : x < 2 ^ 64) : sumb [x] = canonb x := by
  show dob 2 9223372036854775808 x = canonb x
  rw [same1]
  rcases nan_cases x with n | n
  · rw [canonb_nan n]; exact fop_nan_left .add _ _ n
  · rw [canonb_num n]; exact add_low x ⟨hx, canonb_num n⟩

set_option maxHeartbeats 1000000 in
theorem least_nil (ad : Option Addr) (cap : Nat) (w : World) :
    Calls Try.prog 19 #[.slice ad 0 cap] w fun e w' => e = .returned (.tuple #[.float .f64 0, .int .i64 6]) ∧ w = w' := by
  go_enter Try.func19, Try.ntmps19
  go_wp2_with fail
  go_ret2
  exact ⟨rfl, rfl⟩

set_option maxHeartbeats 1000000 in
theorem least_some (ad : Option Addr) (cap n : Nat) (l : List Nat) (w : World) (hl : Fls w ad l) (hm : n ≤ maxLen) (hn : n = l.length) (h0 : 0 < n) :
    Calls Try.prog 19 #[.slice ad n cap] w fun e w' => e = .returned (.tuple #[.float .f64 (leastl l), .int .i64 0]) ∧ Below w.heap.size w w' := by
  unfold maxLen at hm
  have Hn := Lib.hid hn
  have hz : ((n : Int) == 0) = false := by rw [beq_eq_false_iff_ne]; omega
  obtain ⟨a, r, hlr⟩ : ∃ a r, l = a :: r := by
    cases l with
    | nil => simp at hn; omega
    | cons a r => exact ⟨a, r, rfl⟩
  have Hl := Lib.hid hlr
  have ha : a < 2 ^ 64 := hl.fits a (by rw [hlr]; simp)
  rcases hl.at_ with e0 | ⟨b, o, rfl, hb, hc⟩
  · rw [e0] at hlr; cases hlr
  have hc0 := hc 0 (by rw [← hn]; exact h0)
  have e0 : l[0]'(by rw [← hn]; exact h0) = a := by simp [hlr]
  rw [e0, Nat.add_zero] at hc0
  clear hn hlr e0 hc
  go_enter Try.func19, Try.ntmps19
  go_wp2_with fail
  refine (canon_any _ _ ha).mono ?_
  rintro e _ ⟨rfl, rfl⟩
  go_wp2_with fail
  clear hc0
  go_loopw [4, 16] (fun s i wr => ∃ k : Nat, k ≤ n ∧ i = .int .i64 k ∧ s = .float .f64 (leastFrom (canonb a) (l.take k)) ∧ Fls wr (some ⟨b, o, none⟩) l ∧ Below w.heap.size w wr) (fun _ i _ => n - (intOf i).toNat)
  case atStart => exact ⟨0, Nat.zero_le _, rfl, rfl, hl, Below.refl _ _⟩
  case round =>
    clear hl hb
    obtain ⟨k, hk, rfl, rfl, hF, hB⟩ := hrel
    by_cases hlt : k < n
    · have hkl : k < l.length := by rw [← Hn.out]; exact hlt
      have hxl := hF.fits l[k] (List.getElem_mem hkl)
      have hsl : leastFrom (canonb a) (l.take k) < 2 ^ 64 := leastFrom_lt _ _ (canonb_lt a ha) (fun x hx => hF.fits x (List.mem_of_mem_take hx))
      have HT := Lib.hid (take_next l k hkl)
      rcases hF.at_ with e0 | ⟨b', o', e1, hb, hc⟩
      · exfalso; rw [e0] at hkl; simp at hkl
      injection e1 with e1
      injection e1 with e2 e3
      subst e2 e3
      have hck := hc k hkl
      clear hc
      generalize hx : l[k] = x at hck hxl HT
      have Hx := Lib.hid hx
      clear hx
      generalize hs : leastFrom (canonb a) (l.take k) = s at hsl ⊢
      have Hs := Lib.hid hs
      clear hs
      go_wp2_with fail
      refine (do_6 _ _ _ hsl hxl).mono ?_
      rintro e w1 ⟨rfl, hN⟩
      go_wp2_with fail
      go_roundw
      case rel => exact ⟨k + 1, by omega, by go_num, by rw [HT.out]; unfold leastFrom; rw [List.foldl_append]; rw [show (l.take k).foldl (dob 6) (canonb a) = s from Hs.out]; rfl, hF.below hN, hB.trans (hN.mono hB.size)⟩
      case measure => simp [intOf]; omega
    · go_wp2_with fail
      go_ret2
      refine ⟨?_, hB⟩
      have e1 : l.take k = l := List.take_of_length_le (by rw [← Hn.out]; omega)
      show Ending.returned (.tuple #[.float .f64 (leastFrom (canonb a) (l.take k)), _]) = _
      rw [e1]
      have e2 : leastl l = leastFrom (canonb a) l := by rw [Hl.out]; rfl
      rw [e2]
      rfl
end Go.Proofs.Ytajipgcnpemifaa
