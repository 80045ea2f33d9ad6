/- The walk of ArithEdges. -/
import Derived.Test.YtajipgcnpemifaaYb
namespace Go.Proofs.Ytajipgcnpemifaa
open Go.RowKit Ieee

theorem clean_yes (x : Nat) (w : World) (hx : x < 2 ^ 64) (h : canonb x = x) : Calls Try.prog 20 #[.float .f64 x] w fun e w' => e = .returned (.bool true) ∧ w = w' := by
  have h1 := eq_self x hx
  rcases nan_cases x with n | n
  · rw [n] at h1
    have h2 : ((x : Int) == 9221120237041090561) = true := by rw [canonb_nan n] at h; rw [← h]; rfl
    have H := Lib.hid h
    clear h n
    go_enter Try.func20, Try.ntmps20
    go_wp2_with fail
    go_ret
    exact ⟨rfl, rfl⟩
  · rw [n] at h1
    have H := Lib.hid h
    clear h n
    go_enter Try.func20, Try.ntmps20
    go_wp2_with fail
    go_ret
    exact ⟨rfl, rfl⟩

theorem negative_num (x : Nat) (w : World) (hx : x < 2 ^ 64) (n : nanq x = false) : Calls Try.prog 22 #[.float .f64 x] w fun e w' => e = .returned (.bool (negq x)) ∧ w = w' := by
  have h1 := eq_self x hx
  rw [n] at h1
  have h2 : (bits BinOp.and IntKind.u64 (x : Int) 9223372036854775808 != 0) = negq x := by
    rw [and_sign x hx]; cases negq x <;> rfl
  have H2 := Lib.hid h2
  clear h2 n
  go_enter Try.func22, Try.ntmps22
  go_wp2_with fail
  go_ret
  exact ⟨ret_bool H2.out, rfl⟩

def kindv (m : Nat) : Int := if 9218868437227405312 < m then 1 else if m = 9218868437227405312 then 2 else if m = 0 then 3 else if m < 4503599627370496 then 4 else 5

set_option maxHeartbeats 1000000 in
theorem kind_any (x : Nat) (w : World) (hx : x < 2 ^ 64) : Calls Try.prog 23 #[.float .f64 x] w fun e w' => e = .returned (.int .u8 (kindv (x % 9223372036854775808))) ∧ w = w' := by
  have hb := andnot_sign x hx
  generalize x % 9223372036854775808 = m at hb ⊢
  unfold kindv
  by_cases c1 : 9218868437227405312 < m
  · rw [if_pos c1]
    have t1 : decide ((9218868437227405312 : Int) < (m : Int)) = true := decide_eq_true (by omega)
    have C := Lib.hid c1
    clear c1
    go_enter Try.func23, Try.ntmps23
    go_wp2_with fail
    go_ret
    exact ⟨rfl, rfl⟩
  rw [if_neg c1]
  have t1 : decide ((9218868437227405312 : Int) < (m : Int)) = false := decide_eq_false (by omega)
  have C := Lib.hid c1
  clear c1
  by_cases c2 : m = 9218868437227405312
  · rw [if_pos c2]
    have t2 : ((m : Int) == 9218868437227405312) = true := by rw [c2]; rfl
    have C2 := Lib.hid c2
    clear c2
    go_enter Try.func23, Try.ntmps23
    go_wp2_with fail
    go_ret
    exact ⟨rfl, rfl⟩
  rw [if_neg c2]
  have t2 : ((m : Int) == 9218868437227405312) = false := by rw [beq_eq_false_iff_ne]; omega
  have C2 := Lib.hid c2
  clear c2
  by_cases c3 : m = 0
  · rw [if_pos c3]
    have t3 : ((m : Int) == 0) = true := by rw [c3]; rfl
    have C3 := Lib.hid c3
    clear c3
    go_enter Try.func23, Try.ntmps23
    go_wp2_with fail
    go_ret
    exact ⟨rfl, rfl⟩
  rw [if_neg c3]
  have t3 : ((m : Int) == 0) = false := by rw [beq_eq_false_iff_ne]; omega
  have C3 := Lib.hid c3
  clear c3
  by_cases c4 : m < 4503599627370496
  · rw [if_pos c4]
    have t4 : decide ((m : Int) < 4503599627370496) = true := decide_eq_true (by omega)
    have C4 := Lib.hid c4
    clear c4
    go_enter Try.func23, Try.ntmps23
    go_wp2_with fail
    go_ret
    exact ⟨rfl, rfl⟩
  rw [if_neg c4]
  have t4 : decide ((m : Int) < 4503599627370496) = false := decide_eq_false (by omega)
  have C4 := Lib.hid c4
  clear c4
  go_enter Try.func23, Try.ntmps23
  go_wp2_with fail
  go_ret
  exact ⟨rfl, rfl⟩

theorem kind_two (x : Nat) (n : nanq x = false) : (kindv (x % 9223372036854775808) == 2) = infq x ∧ (kindv (x % 9223372036854775808) == 3) = zeroq x := by
  unfold nanq at n
  have n := of_decide_eq_false n
  unfold kindv infq zeroq
  rw [if_neg n]
  by_cases c2 : x % 9223372036854775808 = 9218868437227405312
  · rw [if_pos c2, decide_eq_true c2, decide_eq_false (by omega)]; exact ⟨rfl, rfl⟩
  rw [if_neg c2, decide_eq_false c2]
  by_cases c3 : x % 9223372036854775808 = 0
  · rw [if_pos c3, decide_eq_true c3]; exact ⟨rfl, rfl⟩
  rw [if_neg c3, decide_eq_false c3]
  split <;> exact ⟨rfl, rfl⟩

theorem fn_24 (v : Int) (w : World) : Calls Try.prog 24 #[.int .u8 v] w fun e w' => e = .returned (.bool (v == 2)) ∧ w = w' := by
  go_enter Try.func24, Try.ntmps24
  go_wp2
  go_ret
  exact ⟨rfl, rfl⟩
theorem fn_25 (v : Int) (w : World) : Calls Try.prog 25 #[.int .u8 v] w fun e w' => e = .returned (.bool (v == 3)) ∧ w = w' := by
  go_enter Try.func25, Try.ntmps25
  go_wp2
  go_ret
  exact ⟨rfl, rfl⟩

theorem kinds (x : Nat) : (infq x = true ∧ zeroq x = false) ∨ (infq x = false ∧ zeroq x = true) ∨ (infq x = false ∧ zeroq x = false) := by
  unfold infq zeroq
  by_cases a : x % 9223372036854775808 = 9218868437227405312
  · exact .inl ⟨decide_eq_true a, decide_eq_false (by omega)⟩
  · by_cases b : x % 9223372036854775808 = 0
    · exact .inr (.inl ⟨decide_eq_false a, decide_eq_true b⟩)
    · exact .inr (.inr ⟨decide_eq_false a, decide_eq_false b⟩)

/-- The walk behind the loop, said of both numbers. -/
structure Edges (x m d s : Nat) (px py ix zx iy zy ne : Bool) : Prop where
  lm : m < 2 ^ 64
  ld : d < 2 ^ 64
  ls : s < 2 ^ 64
  nm : nanq m = (ix && zy || zx && iy)
  nd : nanq d = (ix && iy || zx && zy)
  ns : nanq s = (ix && iy && ne)
  gm : nanq m = false → negq m = (px != py)
  gd : nanq d = false → negq d = (px != py)
  si : ix = true → nanq s = false → s = x
  sz : zy = true → zx = false → s = x

theorem edges_of (x y : Nat) (hx : x < 2 ^ 64) (hy : y < 2 ^ 64) (nx : nanq x = false) (ny : nanq y = false) :
    Edges x (dob 4 x y) (dob 5 x y) (dob 2 x y) (negq x) (negq y) (infq x) (zeroq x) (infq y) (zeroq y) (FloatKind.f64.format.order x y != some .eq) :=
  ⟨dob_lt _ _ _ hx hy, dob_lt _ _ _ hx hy, dob_lt _ _ _ hx hy, (mul_edges x y hx hy nx ny).1, (div_edges x y hx hy nx ny).1, (add_edges x y hx hy nx ny).1,
    (mul_edges x y hx hy nx ny).2, (div_edges x y hx hy nx ny).2, (add_edges x y hx hy nx ny).2.1, (add_edges x y hx hy nx ny).2.2⟩

set_option maxRecDepth 100000 in
set_option maxHeartbeats 16000000 in
theorem edges_walk (a b : Int) (ha : 0 ≤ a ∧ a < 18446744073709551616) (hb : 0 ≤ b ∧ b < 18446744073709551616) (w : World) :
    Calls Try.prog 7 #[.int .u64 a, .int .u64 b] w fun e w' => e = .returned (.bool true) ∧ Below w.heap.size w w' := by
  obtain ⟨x, rfl⟩ := Int.eq_ofNat_of_zero_le ha.1
  obtain ⟨y, rfl⟩ := Int.eq_ofNat_of_zero_le hb.1
  have hx : x < 2 ^ 64 := by omega
  have hy : y < 2 ^ 64 := by omega
  clear ha hb
  have hB := Below.refl w.heap.size w
  have cx := canonb_lt x hx
  have cy := canonb_lt y hy
  go_enter Try.func7, Try.ntmps7
  go_wp2_with fail
  refine (awake_any _).mono ?_
  rintro e w1 ⟨rfl, hN⟩
  replace hB := hB.trans (hN.mono hB.size)
  clear hN
  go_wp2_with fail
  go_loopw [7] (fun v wr => ∃ j : Nat, 1 ≤ j ∧ j ≤ 8 ∧ v = .int .u8 (j : Int) ∧ Below w.heap.size w wr)
    (fun v _ => 9 - (intOf v).toNat)
  case atStart => exact ⟨1, by omega, by omega, rfl, hB⟩
  case round =>
    clear hB
    obtain ⟨j, hj1, hj8, rfl, hB⟩ := hrel
    by_cases hj : j ≤ 7
    · have hz := dob_lt j x y hx hy
      have hc := Lib.hid (canonb_dob j x y hx hy)
      have hd := Lib.hid (dob_canon j x y hx hy hj1 hj)
      have hz2 := dob_lt j (canonb x) (canonb y) cx cy
      have tx := ne_self x hx
      have ty := ne_self y hy
      rcases nan_cases x with nx | nx
      · rw [nx] at tx
        have tz : (FloatKind.f64.format.order (dob j x y) (dob j x y) == some .eq) = false := by rw [eq_self _ hz, dob_nan_left j x y hx hy hj1 hj nx, nanb_nan]; rfl
        clear nx ty
        cases sy : nanq y
        · have ty := ne_self y hy
          rw [sy] at ty
          clear sy
          go_wp2_with fail
          refine (do10_any j hj1 hj _ _ _ hx hy).mono ?_
          rintro e w2 ⟨rfl, hN⟩
          replace hB := hB.trans (hN.mono hB.size)
          clear hN
          go_wp2_with fail
          refine (clean_yes _ _ hz hc.out).mono ?_
          rintro e _ ⟨rfl, rfl⟩
          go_wp2_with fail
          refine (canon_any _ _ hx).mono ?_
          rintro e _ ⟨rfl, rfl⟩
          go_wp2_with fail
          refine (canon_any _ _ hy).mono ?_
          rintro e _ ⟨rfl, rfl⟩
          go_wp2_with fail
          refine (do10_any j hj1 hj _ _ _ cx cy).mono ?_
          rintro e w3 ⟨rfl, hN⟩
          replace hB := hB.trans (hN.mono hB.size)
          clear hN
          go_wp2_with fail
          refine (same_yes _ _ _ hz hz2 hd.out).mono ?_
          rintro e _ ⟨rfl, rfl⟩
          go_wp2_with fail
          go_roundw
          case rel => exact ⟨j + 1, by omega, by omega, by go_num, hB⟩
          case measure => simp [intOf]; omega
        · have ty := ne_self y hy
          rw [sy] at ty
          clear sy
          by_cases e1 : j = 1
          · have t1 : ((j : Int) != 1) = false := by rw [e1]; rfl
            have E := Lib.hid e1
            clear e1
            go_wp2_with fail
            refine (do10_any j hj1 hj _ _ _ hx hy).mono ?_
            rintro e w2 ⟨rfl, hN⟩
            replace hB := hB.trans (hN.mono hB.size)
            clear hN
            go_wp2_with fail
            refine (clean_yes _ _ hz hc.out).mono ?_
            rintro e _ ⟨rfl, rfl⟩
            go_wp2_with fail
            refine (canon_any _ _ hx).mono ?_
            rintro e _ ⟨rfl, rfl⟩
            go_wp2_with fail
            refine (canon_any _ _ hy).mono ?_
            rintro e _ ⟨rfl, rfl⟩
            go_wp2_with fail
            refine (do10_any j hj1 hj _ _ _ cx cy).mono ?_
            rintro e w4 ⟨rfl, hN⟩
            replace hB := hB.trans (hN.mono hB.size)
            clear hN
            go_wp2_with fail
            refine (same_yes _ _ _ hz hz2 hd.out).mono ?_
            rintro e _ ⟨rfl, rfl⟩
            go_wp2_with fail
            go_roundw
            case rel => exact ⟨j + 1, by omega, by omega, by go_num, hB⟩
            case measure => simp [intOf]; omega
          · have t1 : ((j : Int) != 1) = true := by simp; omega
            have E := Lib.hid e1
            clear e1
            go_wp2_with fail
            refine (do10_any j hj1 hj _ _ _ hx hy).mono ?_
            rintro e w2 ⟨rfl, hN⟩
            replace hB := hB.trans (hN.mono hB.size)
            clear hN
            go_wp2_with fail
            refine (clean_yes _ _ hz hc.out).mono ?_
            rintro e _ ⟨rfl, rfl⟩
            go_wp2_with fail
            refine (canon_any _ _ hx).mono ?_
            rintro e _ ⟨rfl, rfl⟩
            go_wp2_with fail
            refine (canon_any _ _ hy).mono ?_
            rintro e _ ⟨rfl, rfl⟩
            go_wp2_with fail
            refine (do10_any j hj1 hj _ _ _ cx cy).mono ?_
            rintro e w5 ⟨rfl, hN⟩
            replace hB := hB.trans (hN.mono hB.size)
            clear hN
            go_wp2_with fail
            refine (same_yes _ _ _ hz hz2 hd.out).mono ?_
            rintro e _ ⟨rfl, rfl⟩
            go_wp2_with fail
            go_roundw
            case rel => exact ⟨j + 1, by omega, by omega, by go_num, hB⟩
            case measure => simp [intOf]; omega
      rw [nx] at tx
      rcases nan_cases y with ny | ny
      · rw [ny] at ty
        by_cases e1 : j = 1
        · have t1 : ((j : Int) != 1) = false := by rw [e1]; rfl
          have E := Lib.hid e1
          clear e1 nx ny
          go_wp2_with fail
          refine (do10_any j hj1 hj _ _ _ hx hy).mono ?_
          rintro e w2 ⟨rfl, hN⟩
          replace hB := hB.trans (hN.mono hB.size)
          clear hN
          go_wp2_with fail
          refine (clean_yes _ _ hz hc.out).mono ?_
          rintro e _ ⟨rfl, rfl⟩
          go_wp2_with fail
          refine (canon_any _ _ hx).mono ?_
          rintro e _ ⟨rfl, rfl⟩
          go_wp2_with fail
          refine (canon_any _ _ hy).mono ?_
          rintro e _ ⟨rfl, rfl⟩
          go_wp2_with fail
          refine (do10_any j hj1 hj _ _ _ cx cy).mono ?_
          rintro e w6 ⟨rfl, hN⟩
          replace hB := hB.trans (hN.mono hB.size)
          clear hN
          go_wp2_with fail
          refine (same_yes _ _ _ hz hz2 hd.out).mono ?_
          rintro e _ ⟨rfl, rfl⟩
          go_wp2_with fail
          go_roundw
          case rel => exact ⟨j + 1, by omega, by omega, by go_num, hB⟩
          case measure => simp [intOf]; omega
        · have t1 : ((j : Int) != 1) = true := by simp; omega
          have tz : (FloatKind.f64.format.order (dob j x y) (dob j x y) == some .eq) = false := by rw [eq_self _ hz, dob_nan_right j x y hx hy (by omega) hj ny, nanb_nan]; rfl
          have E := Lib.hid e1
          clear e1 nx ny
          go_wp2_with fail
          refine (do10_any j hj1 hj _ _ _ hx hy).mono ?_
          rintro e w2 ⟨rfl, hN⟩
          replace hB := hB.trans (hN.mono hB.size)
          clear hN
          go_wp2_with fail
          refine (clean_yes _ _ hz hc.out).mono ?_
          rintro e _ ⟨rfl, rfl⟩
          go_wp2_with fail
          refine (canon_any _ _ hx).mono ?_
          rintro e _ ⟨rfl, rfl⟩
          go_wp2_with fail
          refine (canon_any _ _ hy).mono ?_
          rintro e _ ⟨rfl, rfl⟩
          go_wp2_with fail
          refine (do10_any j hj1 hj _ _ _ cx cy).mono ?_
          rintro e w7 ⟨rfl, hN⟩
          replace hB := hB.trans (hN.mono hB.size)
          clear hN
          go_wp2_with fail
          refine (same_yes _ _ _ hz hz2 hd.out).mono ?_
          rintro e _ ⟨rfl, rfl⟩
          go_wp2_with fail
          go_roundw
          case rel => exact ⟨j + 1, by omega, by omega, by go_num, hB⟩
          case measure => simp [intOf]; omega
      rw [ny] at ty
      clear nx ny
      go_wp2_with fail
      refine (do10_any j hj1 hj _ _ _ hx hy).mono ?_
      rintro e w2 ⟨rfl, hN⟩
      replace hB := hB.trans (hN.mono hB.size)
      clear hN
      go_wp2_with fail
      refine (clean_yes _ _ hz hc.out).mono ?_
      rintro e _ ⟨rfl, rfl⟩
      go_wp2_with fail
      refine (canon_any _ _ hx).mono ?_
      rintro e _ ⟨rfl, rfl⟩
      go_wp2_with fail
      refine (canon_any _ _ hy).mono ?_
      rintro e _ ⟨rfl, rfl⟩
      go_wp2_with fail
      refine (do10_any j hj1 hj _ _ _ cx cy).mono ?_
      rintro e w8 ⟨rfl, hN⟩
      replace hB := hB.trans (hN.mono hB.size)
      clear hN
      go_wp2_with fail
      refine (same_yes _ _ _ hz hz2 hd.out).mono ?_
      rintro e _ ⟨rfl, rfl⟩
      go_wp2_with fail
      go_roundw
      case rel => exact ⟨j + 1, by omega, by omega, by go_num, hB⟩
      case measure => simp [intOf]; omega
    · have e8 : j = 8 := by omega
      subst e8
      clear hj hj1 hj8 cx cy
      have tx := ne_self x hx
      have ty := ne_self y hy
      rcases nan_cases x with nx | nx
      · rw [nx] at tx
        clear nx ty
        go_wp2_with fail
        go_ret
        exact ⟨rfl, hB⟩
      rw [nx] at tx
      rcases nan_cases y with ny | ny
      · rw [ny] at ty
        clear nx ny
        go_wp2_with fail
        go_ret
        exact ⟨rfl, hB⟩
      rw [ny] at ty
      have E := edges_of x y hx hy nx ny
      have D4 : ∀ W, Calls Try.prog 10 #[.int .u8 4, .float .f64 x, .float .f64 y] W fun e w' => e = .returned (.float .f64 (dob 4 x y)) ∧ Below W.heap.size W w' := fun W => do10_any 4 (by omega) (by omega) x y W hx hy
      have D5 : ∀ W, Calls Try.prog 10 #[.int .u8 5, .float .f64 x, .float .f64 y] W fun e w' => e = .returned (.float .f64 (dob 5 x y)) ∧ Below W.heap.size W w' := fun W => do10_any 5 (by omega) (by omega) x y W hx hy
      have D2 : ∀ W, Calls Try.prog 10 #[.int .u8 2, .float .f64 x, .float .f64 y] W fun e w' => e = .returned (.float .f64 (dob 2 x y)) ∧ Below W.heap.size W w' := fun W => do10_any 2 (by omega) (by omega) x y W hx hy
      have NX := fun W => negative_num x W hx nx
      have NY := fun W => negative_num y W hy ny
      have KX := fun W => kind_any x W hx
      have KY := fun W => kind_any y W hy
      have k2 := kind_two x nx
      have k3 := kind_two y ny
      obtain ⟨kx2, kx3⟩ := k2
      obtain ⟨ky2, ky3⟩ := k3
      clear nx ny
      generalize dob 4 x y = m at E D4
      generalize dob 5 x y = d at E D5
      generalize dob 2 x y = s at E D2
      generalize kindv (x % 9223372036854775808) = kx at KX kx2 kx3
      generalize kindv (y % 9223372036854775808) = ky at KY ky2 ky3
      generalize negq x = px at NX E
      generalize negq y = py at NY E
      generalize hne : (FloatKind.f64.format.order x y != some .eq) = ne at E
      have em := eq_self m E.lm
      have nem := ne_self m E.lm
      have ed := eq_self d E.ld
      have ned := ne_self d E.ld
      have nes := ne_self s E.ls
      rw [E.nm] at em nem
      rw [E.nd] at ed ned
      rw [E.ns] at nes
      rcases kinds x with ⟨ix, zx⟩ | ⟨ix, zx⟩ | ⟨ix, zx⟩ <;> rcases kinds y with ⟨iy, zy⟩ | ⟨iy, zy⟩ | ⟨iy, zy⟩ <;> rw [ix, zx, iy, zy] at E <;> rw [ix] at kx2 <;> rw [zx] at kx3 <;> rw [iy] at ky2 <;> rw [zy] at ky3 <;> rw [ix, iy, zx, zy] at em nem ed ned <;> rw [ix, iy] at nes <;> clear ix zx iy zy
      · cases ne
        · have em' : (FloatKind.f64.format.order m m == some .eq) = true := em
          have nem' : (FloatKind.f64.format.order m m != some .eq) = false := nem
          have ed' : (FloatKind.f64.format.order d d == some .eq) = false := ed
          have ned' : (FloatKind.f64.format.order d d != some .eq) = true := ned
          have nes' : (FloatKind.f64.format.order s s != some .eq) = false := by simpa using nes
          clear em nem ed ned nes
          have nm : nanq m = false := E.nm
          have NM := fun W => negative_num m W E.lm nm
          rw [E.gm nm] at NM
          clear nm
          have ns : nanq s = false := by rw [E.ns]; rfl
          have SX := fun W => same_yes s x W E.ls hx (E.si rfl ns)
          clear ns
          have EE := Lib.hid E
          clear E
          have HD4 := Lib.hid D4
          clear D4
          have HD5 := Lib.hid D5
          clear D5
          have HD2 := Lib.hid D2
          clear D2
          have HNX := Lib.hid NX
          clear NX
          have HNY := Lib.hid NY
          clear NY
          have HKX := Lib.hid KX
          clear KX
          have HKY := Lib.hid KY
          clear KY
          have HNM := Lib.hid NM
          clear NM
          have HSX := Lib.hid SX
          clear SX
          go_wp2_with fail
          refine (HD4.out _).mono ?_
          rintro e w9 ⟨rfl, hN⟩
          replace hB := hB.trans (hN.mono hB.size)
          clear hN
          clear tx ty
          go_wp2_with fail
          refine (HD5.out _).mono ?_
          rintro e w10 ⟨rfl, hN⟩
          replace hB := hB.trans (hN.mono hB.size)
          clear hN
          go_wp2_with fail
          refine (HNX.out _).mono ?_
          rintro e _ ⟨rfl, rfl⟩
          go_wp2_with fail
          refine (HNY.out _).mono ?_
          rintro e _ ⟨rfl, rfl⟩
          go_wp2_with fail
          refine (HNM.out _).mono ?_
          rintro e _ ⟨rfl, rfl⟩
          go_wp2_with fail
          refine (HKX.out _).mono ?_
          rintro e _ ⟨rfl, rfl⟩
          go_wp2_with fail
          refine (HKY.out _).mono ?_
          rintro e _ ⟨rfl, rfl⟩
          go_wp2_with fail
          refine (fn_24 kx _).mono ?_
          rintro e _ ⟨rfl, rfl⟩
          go_wp2_with fail
          refine (fn_25 ky _).mono ?_
          rintro e _ ⟨rfl, rfl⟩
          go_wp2_with fail
          refine (fn_25 kx _).mono ?_
          rintro e _ ⟨rfl, rfl⟩
          go_wp2_with fail
          refine (fn_24 kx _).mono ?_
          rintro e _ ⟨rfl, rfl⟩
          go_wp2_with fail
          refine (fn_24 ky _).mono ?_
          rintro e _ ⟨rfl, rfl⟩
          go_wp2_with fail
          refine (HD2.out _).mono ?_
          rintro e w11 ⟨rfl, hN⟩
          replace hB := hB.trans (hN.mono hB.size)
          clear hN
          go_wp2_with fail
          refine (fn_24 kx _).mono ?_
          rintro e _ ⟨rfl, rfl⟩
          go_wp2_with fail
          refine (fn_24 ky _).mono ?_
          rintro e _ ⟨rfl, rfl⟩
          go_wp2_with fail
          refine (fn_24 kx _).mono ?_
          rintro e _ ⟨rfl, rfl⟩
          go_wp2_with fail
          refine (HSX.out _).mono ?_
          rintro e _ ⟨rfl, rfl⟩
          go_wp2_with fail
          refine (fn_25 ky _).mono ?_
          rintro e _ ⟨rfl, rfl⟩
          go_wp2_with fail
          go_ret
          exact ⟨rfl, hB⟩
        · have em' : (FloatKind.f64.format.order m m == some .eq) = true := em
          have nem' : (FloatKind.f64.format.order m m != some .eq) = false := nem
          have ed' : (FloatKind.f64.format.order d d == some .eq) = false := ed
          have ned' : (FloatKind.f64.format.order d d != some .eq) = true := ned
          have nes' : (FloatKind.f64.format.order s s != some .eq) = true := by simpa using nes
          clear em nem ed ned nes
          have nm : nanq m = false := E.nm
          have NM := fun W => negative_num m W E.lm nm
          rw [E.gm nm] at NM
          clear nm
          have EE := Lib.hid E
          clear E
          have HD4 := Lib.hid D4
          clear D4
          have HD5 := Lib.hid D5
          clear D5
          have HD2 := Lib.hid D2
          clear D2
          have HNX := Lib.hid NX
          clear NX
          have HNY := Lib.hid NY
          clear NY
          have HKX := Lib.hid KX
          clear KX
          have HKY := Lib.hid KY
          clear KY
          have HNM := Lib.hid NM
          clear NM
          go_wp2_with fail
          refine (HD4.out _).mono ?_
          rintro e w12 ⟨rfl, hN⟩
          replace hB := hB.trans (hN.mono hB.size)
          clear hN
          clear tx ty
          go_wp2_with fail
          refine (HD5.out _).mono ?_
          rintro e w13 ⟨rfl, hN⟩
          replace hB := hB.trans (hN.mono hB.size)
          clear hN
          go_wp2_with fail
          refine (HNX.out _).mono ?_
          rintro e _ ⟨rfl, rfl⟩
          go_wp2_with fail
          refine (HNY.out _).mono ?_
          rintro e _ ⟨rfl, rfl⟩
          go_wp2_with fail
          refine (HNM.out _).mono ?_
          rintro e _ ⟨rfl, rfl⟩
          go_wp2_with fail
          refine (HKX.out _).mono ?_
          rintro e _ ⟨rfl, rfl⟩
          go_wp2_with fail
          refine (HKY.out _).mono ?_
          rintro e _ ⟨rfl, rfl⟩
          go_wp2_with fail
          refine (fn_24 kx _).mono ?_
          rintro e _ ⟨rfl, rfl⟩
          go_wp2_with fail
          refine (fn_25 ky _).mono ?_
          rintro e _ ⟨rfl, rfl⟩
          go_wp2_with fail
          refine (fn_25 kx _).mono ?_
          rintro e _ ⟨rfl, rfl⟩
          go_wp2_with fail
          refine (fn_24 kx _).mono ?_
          rintro e _ ⟨rfl, rfl⟩
          go_wp2_with fail
          refine (fn_24 ky _).mono ?_
          rintro e _ ⟨rfl, rfl⟩
          go_wp2_with fail
          refine (HD2.out _).mono ?_
          rintro e w14 ⟨rfl, hN⟩
          replace hB := hB.trans (hN.mono hB.size)
          clear hN
          go_wp2_with fail
          refine (fn_24 kx _).mono ?_
          rintro e _ ⟨rfl, rfl⟩
          go_wp2_with fail
          refine (fn_24 ky _).mono ?_
          rintro e _ ⟨rfl, rfl⟩
          go_wp2_with fail
          refine (fn_24 kx _).mono ?_
          rintro e _ ⟨rfl, rfl⟩
          go_wp2_with fail
          refine (fn_25 ky _).mono ?_
          rintro e _ ⟨rfl, rfl⟩
          go_wp2_with fail
          go_ret
          exact ⟨rfl, hB⟩
      · have em' : (FloatKind.f64.format.order m m == some .eq) = false := em
        have nem' : (FloatKind.f64.format.order m m != some .eq) = true := nem
        have ed' : (FloatKind.f64.format.order d d == some .eq) = true := ed
        have ned' : (FloatKind.f64.format.order d d != some .eq) = false := ned
        have nes' : (FloatKind.f64.format.order s s != some .eq) = false := by simpa using nes
        clear em nem ed ned nes
        have nd : nanq d = false := E.nd
        have ND := fun W => negative_num d W E.ld nd
        rw [E.gd nd] at ND
        clear nd
        have ns : nanq s = false := by rw [E.ns]; rfl
        have SX := fun W => same_yes s x W E.ls hx (E.si rfl ns)
        clear ns
        have EE := Lib.hid E
        clear E
        have HD4 := Lib.hid D4
        clear D4
        have HD5 := Lib.hid D5
        clear D5
        have HD2 := Lib.hid D2
        clear D2
        have HNX := Lib.hid NX
        clear NX
        have HNY := Lib.hid NY
        clear NY
        have HKX := Lib.hid KX
        clear KX
        have HKY := Lib.hid KY
        clear KY
        have HND := Lib.hid ND
        clear ND
        have HSX := Lib.hid SX
        clear SX
        go_wp2_with fail
        refine (HD4.out _).mono ?_
        rintro e w15 ⟨rfl, hN⟩
        replace hB := hB.trans (hN.mono hB.size)
        clear hN
        clear tx ty
        go_wp2_with fail
        refine (HD5.out _).mono ?_
        rintro e w16 ⟨rfl, hN⟩
        replace hB := hB.trans (hN.mono hB.size)
        clear hN
        go_wp2_with fail
        refine (HNX.out _).mono ?_
        rintro e _ ⟨rfl, rfl⟩
        go_wp2_with fail
        refine (HNY.out _).mono ?_
        rintro e _ ⟨rfl, rfl⟩
        have f4 : ((px != py) == !(px == py)) = true := by cases px <;> cases py <;> rfl
        have f5 : (!((px != py) == !(px == py))) = false := by cases px <;> cases py <;> rfl
        go_wp2_with fail
        refine (HND.out _).mono ?_
        rintro e _ ⟨rfl, rfl⟩
        go_wp2_with fail
        refine (HKX.out _).mono ?_
        rintro e _ ⟨rfl, rfl⟩
        go_wp2_with fail
        refine (HKY.out _).mono ?_
        rintro e _ ⟨rfl, rfl⟩
        go_wp2_with fail
        refine (fn_24 kx _).mono ?_
        rintro e _ ⟨rfl, rfl⟩
        go_wp2_with fail
        refine (fn_25 ky _).mono ?_
        rintro e _ ⟨rfl, rfl⟩
        go_wp2_with fail
        refine (fn_24 kx _).mono ?_
        rintro e _ ⟨rfl, rfl⟩
        go_wp2_with fail
        refine (fn_24 ky _).mono ?_
        rintro e _ ⟨rfl, rfl⟩
        go_wp2_with fail
        refine (fn_25 kx _).mono ?_
        rintro e _ ⟨rfl, rfl⟩
        go_wp2_with fail
        refine (HD2.out _).mono ?_
        rintro e w17 ⟨rfl, hN⟩
        replace hB := hB.trans (hN.mono hB.size)
        clear hN
        go_wp2_with fail
        refine (fn_24 kx _).mono ?_
        rintro e _ ⟨rfl, rfl⟩
        go_wp2_with fail
        refine (fn_24 ky _).mono ?_
        rintro e _ ⟨rfl, rfl⟩
        go_wp2_with fail
        refine (fn_24 kx _).mono ?_
        rintro e _ ⟨rfl, rfl⟩
        go_wp2_with fail
        refine (HSX.out _).mono ?_
        rintro e _ ⟨rfl, rfl⟩
        go_wp2_with fail
        refine (fn_25 ky _).mono ?_
        rintro e _ ⟨rfl, rfl⟩
        go_wp2_with fail
        refine (fn_25 kx _).mono ?_
        rintro e _ ⟨rfl, rfl⟩
        go_wp2_with fail
        refine (HSX.out _).mono ?_
        rintro e _ ⟨rfl, rfl⟩
        go_wp2_with fail
        go_ret
        exact ⟨rfl, hB⟩
      · have em' : (FloatKind.f64.format.order m m == some .eq) = true := em
        have nem' : (FloatKind.f64.format.order m m != some .eq) = false := nem
        have ed' : (FloatKind.f64.format.order d d == some .eq) = true := ed
        have ned' : (FloatKind.f64.format.order d d != some .eq) = false := ned
        have nes' : (FloatKind.f64.format.order s s != some .eq) = false := by simpa using nes
        clear em nem ed ned nes
        have nm : nanq m = false := E.nm
        have NM := fun W => negative_num m W E.lm nm
        rw [E.gm nm] at NM
        clear nm
        have nd : nanq d = false := E.nd
        have ND := fun W => negative_num d W E.ld nd
        rw [E.gd nd] at ND
        clear nd
        have ns : nanq s = false := by rw [E.ns]; rfl
        have SX := fun W => same_yes s x W E.ls hx (E.si rfl ns)
        clear ns
        have EE := Lib.hid E
        clear E
        have HD4 := Lib.hid D4
        clear D4
        have HD5 := Lib.hid D5
        clear D5
        have HD2 := Lib.hid D2
        clear D2
        have HNX := Lib.hid NX
        clear NX
        have HNY := Lib.hid NY
        clear NY
        have HKX := Lib.hid KX
        clear KX
        have HKY := Lib.hid KY
        clear KY
        have HNM := Lib.hid NM
        clear NM
        have HND := Lib.hid ND
        clear ND
        have HSX := Lib.hid SX
        clear SX
        go_wp2_with fail
        refine (HD4.out _).mono ?_
        rintro e w18 ⟨rfl, hN⟩
        replace hB := hB.trans (hN.mono hB.size)
        clear hN
        clear tx ty
        go_wp2_with fail
        refine (HD5.out _).mono ?_
        rintro e w19 ⟨rfl, hN⟩
        replace hB := hB.trans (hN.mono hB.size)
        clear hN
        go_wp2_with fail
        refine (HNX.out _).mono ?_
        rintro e _ ⟨rfl, rfl⟩
        go_wp2_with fail
        refine (HNY.out _).mono ?_
        rintro e _ ⟨rfl, rfl⟩
        go_wp2_with fail
        refine (HNM.out _).mono ?_
        rintro e _ ⟨rfl, rfl⟩
        go_wp2_with fail
        refine (HND.out _).mono ?_
        rintro e _ ⟨rfl, rfl⟩
        go_wp2_with fail
        refine (HKX.out _).mono ?_
        rintro e _ ⟨rfl, rfl⟩
        go_wp2_with fail
        refine (HKY.out _).mono ?_
        rintro e _ ⟨rfl, rfl⟩
        go_wp2_with fail
        refine (fn_24 kx _).mono ?_
        rintro e _ ⟨rfl, rfl⟩
        go_wp2_with fail
        refine (fn_25 ky _).mono ?_
        rintro e _ ⟨rfl, rfl⟩
        go_wp2_with fail
        refine (fn_25 kx _).mono ?_
        rintro e _ ⟨rfl, rfl⟩
        go_wp2_with fail
        refine (fn_24 kx _).mono ?_
        rintro e _ ⟨rfl, rfl⟩
        go_wp2_with fail
        refine (fn_24 ky _).mono ?_
        rintro e _ ⟨rfl, rfl⟩
        go_wp2_with fail
        refine (fn_25 kx _).mono ?_
        rintro e _ ⟨rfl, rfl⟩
        go_wp2_with fail
        refine (HD2.out _).mono ?_
        rintro e w20 ⟨rfl, hN⟩
        replace hB := hB.trans (hN.mono hB.size)
        clear hN
        go_wp2_with fail
        refine (fn_24 kx _).mono ?_
        rintro e _ ⟨rfl, rfl⟩
        go_wp2_with fail
        refine (fn_24 ky _).mono ?_
        rintro e _ ⟨rfl, rfl⟩
        go_wp2_with fail
        refine (fn_24 kx _).mono ?_
        rintro e _ ⟨rfl, rfl⟩
        go_wp2_with fail
        refine (HSX.out _).mono ?_
        rintro e _ ⟨rfl, rfl⟩
        go_wp2_with fail
        refine (fn_25 ky _).mono ?_
        rintro e _ ⟨rfl, rfl⟩
        go_wp2_with fail
        go_ret
        exact ⟨rfl, hB⟩
      · have em' : (FloatKind.f64.format.order m m == some .eq) = false := em
        have nem' : (FloatKind.f64.format.order m m != some .eq) = true := nem
        have ed' : (FloatKind.f64.format.order d d == some .eq) = true := ed
        have ned' : (FloatKind.f64.format.order d d != some .eq) = false := ned
        have nes' : (FloatKind.f64.format.order s s != some .eq) = false := by simpa using nes
        clear em nem ed ned nes
        have nd : nanq d = false := E.nd
        have ND := fun W => negative_num d W E.ld nd
        rw [E.gd nd] at ND
        clear nd
        have EE := Lib.hid E
        clear E
        have HD4 := Lib.hid D4
        clear D4
        have HD5 := Lib.hid D5
        clear D5
        have HD2 := Lib.hid D2
        clear D2
        have HNX := Lib.hid NX
        clear NX
        have HNY := Lib.hid NY
        clear NY
        have HKX := Lib.hid KX
        clear KX
        have HKY := Lib.hid KY
        clear KY
        have HND := Lib.hid ND
        clear ND
        go_wp2_with fail
        refine (HD4.out _).mono ?_
        rintro e w21 ⟨rfl, hN⟩
        replace hB := hB.trans (hN.mono hB.size)
        clear hN
        clear tx ty
        go_wp2_with fail
        refine (HD5.out _).mono ?_
        rintro e w22 ⟨rfl, hN⟩
        replace hB := hB.trans (hN.mono hB.size)
        clear hN
        go_wp2_with fail
        refine (HNX.out _).mono ?_
        rintro e _ ⟨rfl, rfl⟩
        go_wp2_with fail
        refine (HNY.out _).mono ?_
        rintro e _ ⟨rfl, rfl⟩
        have f4 : ((px != py) == !(px == py)) = true := by cases px <;> cases py <;> rfl
        have f5 : (!((px != py) == !(px == py))) = false := by cases px <;> cases py <;> rfl
        go_wp2_with fail
        refine (HND.out _).mono ?_
        rintro e _ ⟨rfl, rfl⟩
        go_wp2_with fail
        refine (HKX.out _).mono ?_
        rintro e _ ⟨rfl, rfl⟩
        go_wp2_with fail
        refine (HKY.out _).mono ?_
        rintro e _ ⟨rfl, rfl⟩
        go_wp2_with fail
        refine (fn_24 kx _).mono ?_
        rintro e _ ⟨rfl, rfl⟩
        go_wp2_with fail
        refine (fn_25 kx _).mono ?_
        rintro e _ ⟨rfl, rfl⟩
        go_wp2_with fail
        refine (fn_24 ky _).mono ?_
        rintro e _ ⟨rfl, rfl⟩
        go_wp2_with fail
        refine (fn_24 kx _).mono ?_
        rintro e _ ⟨rfl, rfl⟩
        go_wp2_with fail
        refine (fn_25 kx _).mono ?_
        rintro e _ ⟨rfl, rfl⟩
        go_wp2_with fail
        refine (fn_25 ky _).mono ?_
        rintro e _ ⟨rfl, rfl⟩
        go_wp2_with fail
        refine (HD2.out _).mono ?_
        rintro e w23 ⟨rfl, hN⟩
        replace hB := hB.trans (hN.mono hB.size)
        clear hN
        go_wp2_with fail
        refine (fn_24 kx _).mono ?_
        rintro e _ ⟨rfl, rfl⟩
        go_wp2_with fail
        refine (fn_24 kx _).mono ?_
        rintro e _ ⟨rfl, rfl⟩
        go_wp2_with fail
        refine (fn_25 ky _).mono ?_
        rintro e _ ⟨rfl, rfl⟩
        go_wp2_with fail
        go_ret
        exact ⟨rfl, hB⟩
      · have em' : (FloatKind.f64.format.order m m == some .eq) = true := em
        have nem' : (FloatKind.f64.format.order m m != some .eq) = false := nem
        have ed' : (FloatKind.f64.format.order d d == some .eq) = false := ed
        have ned' : (FloatKind.f64.format.order d d != some .eq) = true := ned
        have nes' : (FloatKind.f64.format.order s s != some .eq) = false := by simpa using nes
        clear em nem ed ned nes
        have nm : nanq m = false := E.nm
        have NM := fun W => negative_num m W E.lm nm
        rw [E.gm nm] at NM
        clear nm
        have EE := Lib.hid E
        clear E
        have HD4 := Lib.hid D4
        clear D4
        have HD5 := Lib.hid D5
        clear D5
        have HD2 := Lib.hid D2
        clear D2
        have HNX := Lib.hid NX
        clear NX
        have HNY := Lib.hid NY
        clear NY
        have HKX := Lib.hid KX
        clear KX
        have HKY := Lib.hid KY
        clear KY
        have HNM := Lib.hid NM
        clear NM
        go_wp2_with fail
        refine (HD4.out _).mono ?_
        rintro e w24 ⟨rfl, hN⟩
        replace hB := hB.trans (hN.mono hB.size)
        clear hN
        clear tx ty
        go_wp2_with fail
        refine (HD5.out _).mono ?_
        rintro e w25 ⟨rfl, hN⟩
        replace hB := hB.trans (hN.mono hB.size)
        clear hN
        go_wp2_with fail
        refine (HNX.out _).mono ?_
        rintro e _ ⟨rfl, rfl⟩
        go_wp2_with fail
        refine (HNY.out _).mono ?_
        rintro e _ ⟨rfl, rfl⟩
        go_wp2_with fail
        refine (HNM.out _).mono ?_
        rintro e _ ⟨rfl, rfl⟩
        go_wp2_with fail
        refine (HKX.out _).mono ?_
        rintro e _ ⟨rfl, rfl⟩
        go_wp2_with fail
        refine (HKY.out _).mono ?_
        rintro e _ ⟨rfl, rfl⟩
        go_wp2_with fail
        refine (fn_24 kx _).mono ?_
        rintro e _ ⟨rfl, rfl⟩
        go_wp2_with fail
        refine (fn_25 kx _).mono ?_
        rintro e _ ⟨rfl, rfl⟩
        go_wp2_with fail
        refine (fn_24 ky _).mono ?_
        rintro e _ ⟨rfl, rfl⟩
        go_wp2_with fail
        refine (fn_24 kx _).mono ?_
        rintro e _ ⟨rfl, rfl⟩
        go_wp2_with fail
        refine (fn_25 kx _).mono ?_
        rintro e _ ⟨rfl, rfl⟩
        go_wp2_with fail
        refine (fn_25 ky _).mono ?_
        rintro e _ ⟨rfl, rfl⟩
        go_wp2_with fail
        refine (HD2.out _).mono ?_
        rintro e w26 ⟨rfl, hN⟩
        replace hB := hB.trans (hN.mono hB.size)
        clear hN
        go_wp2_with fail
        refine (fn_24 kx _).mono ?_
        rintro e _ ⟨rfl, rfl⟩
        go_wp2_with fail
        refine (fn_24 kx _).mono ?_
        rintro e _ ⟨rfl, rfl⟩
        go_wp2_with fail
        refine (fn_25 ky _).mono ?_
        rintro e _ ⟨rfl, rfl⟩
        go_wp2_with fail
        refine (fn_25 kx _).mono ?_
        rintro e _ ⟨rfl, rfl⟩
        go_wp2_with fail
        go_ret
        exact ⟨rfl, hB⟩
      · have em' : (FloatKind.f64.format.order m m == some .eq) = true := em
        have nem' : (FloatKind.f64.format.order m m != some .eq) = false := nem
        have ed' : (FloatKind.f64.format.order d d == some .eq) = true := ed
        have ned' : (FloatKind.f64.format.order d d != some .eq) = false := ned
        have nes' : (FloatKind.f64.format.order s s != some .eq) = false := by simpa using nes
        clear em nem ed ned nes
        have nm : nanq m = false := E.nm
        have NM := fun W => negative_num m W E.lm nm
        rw [E.gm nm] at NM
        clear nm
        have nd : nanq d = false := E.nd
        have ND := fun W => negative_num d W E.ld nd
        rw [E.gd nd] at ND
        clear nd
        have EE := Lib.hid E
        clear E
        have HD4 := Lib.hid D4
        clear D4
        have HD5 := Lib.hid D5
        clear D5
        have HD2 := Lib.hid D2
        clear D2
        have HNX := Lib.hid NX
        clear NX
        have HNY := Lib.hid NY
        clear NY
        have HKX := Lib.hid KX
        clear KX
        have HKY := Lib.hid KY
        clear KY
        have HNM := Lib.hid NM
        clear NM
        have HND := Lib.hid ND
        clear ND
        go_wp2_with fail
        refine (HD4.out _).mono ?_
        rintro e w27 ⟨rfl, hN⟩
        replace hB := hB.trans (hN.mono hB.size)
        clear hN
        clear tx ty
        go_wp2_with fail
        refine (HD5.out _).mono ?_
        rintro e w28 ⟨rfl, hN⟩
        replace hB := hB.trans (hN.mono hB.size)
        clear hN
        go_wp2_with fail
        refine (HNX.out _).mono ?_
        rintro e _ ⟨rfl, rfl⟩
        go_wp2_with fail
        refine (HNY.out _).mono ?_
        rintro e _ ⟨rfl, rfl⟩
        go_wp2_with fail
        refine (HNM.out _).mono ?_
        rintro e _ ⟨rfl, rfl⟩
        go_wp2_with fail
        refine (HND.out _).mono ?_
        rintro e _ ⟨rfl, rfl⟩
        go_wp2_with fail
        refine (HKX.out _).mono ?_
        rintro e _ ⟨rfl, rfl⟩
        go_wp2_with fail
        refine (HKY.out _).mono ?_
        rintro e _ ⟨rfl, rfl⟩
        go_wp2_with fail
        refine (fn_24 kx _).mono ?_
        rintro e _ ⟨rfl, rfl⟩
        go_wp2_with fail
        refine (fn_25 kx _).mono ?_
        rintro e _ ⟨rfl, rfl⟩
        go_wp2_with fail
        refine (fn_24 ky _).mono ?_
        rintro e _ ⟨rfl, rfl⟩
        go_wp2_with fail
        refine (fn_24 kx _).mono ?_
        rintro e _ ⟨rfl, rfl⟩
        go_wp2_with fail
        refine (fn_25 kx _).mono ?_
        rintro e _ ⟨rfl, rfl⟩
        go_wp2_with fail
        refine (fn_25 ky _).mono ?_
        rintro e _ ⟨rfl, rfl⟩
        go_wp2_with fail
        refine (HD2.out _).mono ?_
        rintro e w29 ⟨rfl, hN⟩
        replace hB := hB.trans (hN.mono hB.size)
        clear hN
        go_wp2_with fail
        refine (fn_24 kx _).mono ?_
        rintro e _ ⟨rfl, rfl⟩
        go_wp2_with fail
        refine (fn_24 kx _).mono ?_
        rintro e _ ⟨rfl, rfl⟩
        go_wp2_with fail
        refine (fn_25 ky _).mono ?_
        rintro e _ ⟨rfl, rfl⟩
        go_wp2_with fail
        go_ret
        exact ⟨rfl, hB⟩
      · have em' : (FloatKind.f64.format.order m m == some .eq) = true := em
        have nem' : (FloatKind.f64.format.order m m != some .eq) = false := nem
        have ed' : (FloatKind.f64.format.order d d == some .eq) = true := ed
        have ned' : (FloatKind.f64.format.order d d != some .eq) = false := ned
        have nes' : (FloatKind.f64.format.order s s != some .eq) = false := by simpa using nes
        clear em nem ed ned nes
        have nm : nanq m = false := E.nm
        have NM := fun W => negative_num m W E.lm nm
        rw [E.gm nm] at NM
        clear nm
        have nd : nanq d = false := E.nd
        have ND := fun W => negative_num d W E.ld nd
        rw [E.gd nd] at ND
        clear nd
        have EE := Lib.hid E
        clear E
        have HD4 := Lib.hid D4
        clear D4
        have HD5 := Lib.hid D5
        clear D5
        have HD2 := Lib.hid D2
        clear D2
        have HNX := Lib.hid NX
        clear NX
        have HNY := Lib.hid NY
        clear NY
        have HKX := Lib.hid KX
        clear KX
        have HKY := Lib.hid KY
        clear KY
        have HNM := Lib.hid NM
        clear NM
        have HND := Lib.hid ND
        clear ND
        go_wp2_with fail
        refine (HD4.out _).mono ?_
        rintro e w30 ⟨rfl, hN⟩
        replace hB := hB.trans (hN.mono hB.size)
        clear hN
        clear tx ty
        go_wp2_with fail
        refine (HD5.out _).mono ?_
        rintro e w31 ⟨rfl, hN⟩
        replace hB := hB.trans (hN.mono hB.size)
        clear hN
        go_wp2_with fail
        refine (HNX.out _).mono ?_
        rintro e _ ⟨rfl, rfl⟩
        go_wp2_with fail
        refine (HNY.out _).mono ?_
        rintro e _ ⟨rfl, rfl⟩
        go_wp2_with fail
        refine (HNM.out _).mono ?_
        rintro e _ ⟨rfl, rfl⟩
        go_wp2_with fail
        refine (HND.out _).mono ?_
        rintro e _ ⟨rfl, rfl⟩
        go_wp2_with fail
        refine (HKX.out _).mono ?_
        rintro e _ ⟨rfl, rfl⟩
        go_wp2_with fail
        refine (HKY.out _).mono ?_
        rintro e _ ⟨rfl, rfl⟩
        go_wp2_with fail
        refine (fn_24 kx _).mono ?_
        rintro e _ ⟨rfl, rfl⟩
        go_wp2_with fail
        refine (fn_25 kx _).mono ?_
        rintro e _ ⟨rfl, rfl⟩
        go_wp2_with fail
        refine (fn_24 kx _).mono ?_
        rintro e _ ⟨rfl, rfl⟩
        go_wp2_with fail
        refine (fn_25 kx _).mono ?_
        rintro e _ ⟨rfl, rfl⟩
        go_wp2_with fail
        refine (HD2.out _).mono ?_
        rintro e w32 ⟨rfl, hN⟩
        replace hB := hB.trans (hN.mono hB.size)
        clear hN
        go_wp2_with fail
        refine (fn_24 kx _).mono ?_
        rintro e _ ⟨rfl, rfl⟩
        go_wp2_with fail
        refine (fn_24 kx _).mono ?_
        rintro e _ ⟨rfl, rfl⟩
        go_wp2_with fail
        refine (fn_25 ky _).mono ?_
        rintro e _ ⟨rfl, rfl⟩
        go_wp2_with fail
        go_ret
        exact ⟨rfl, hB⟩
      · have em' : (FloatKind.f64.format.order m m == some .eq) = true := em
        have nem' : (FloatKind.f64.format.order m m != some .eq) = false := nem
        have ed' : (FloatKind.f64.format.order d d == some .eq) = true := ed
        have ned' : (FloatKind.f64.format.order d d != some .eq) = false := ned
        have nes' : (FloatKind.f64.format.order s s != some .eq) = false := by simpa using nes
        clear em nem ed ned nes
        have nm : nanq m = false := E.nm
        have NM := fun W => negative_num m W E.lm nm
        rw [E.gm nm] at NM
        clear nm
        have nd : nanq d = false := E.nd
        have ND := fun W => negative_num d W E.ld nd
        rw [E.gd nd] at ND
        clear nd
        have SX := fun W => same_yes s x W E.ls hx (E.sz rfl rfl)
        have EE := Lib.hid E
        clear E
        have HD4 := Lib.hid D4
        clear D4
        have HD5 := Lib.hid D5
        clear D5
        have HD2 := Lib.hid D2
        clear D2
        have HNX := Lib.hid NX
        clear NX
        have HNY := Lib.hid NY
        clear NY
        have HKX := Lib.hid KX
        clear KX
        have HKY := Lib.hid KY
        clear KY
        have HNM := Lib.hid NM
        clear NM
        have HND := Lib.hid ND
        clear ND
        have HSX := Lib.hid SX
        clear SX
        go_wp2_with fail
        refine (HD4.out _).mono ?_
        rintro e w33 ⟨rfl, hN⟩
        replace hB := hB.trans (hN.mono hB.size)
        clear hN
        clear tx ty
        go_wp2_with fail
        refine (HD5.out _).mono ?_
        rintro e w34 ⟨rfl, hN⟩
        replace hB := hB.trans (hN.mono hB.size)
        clear hN
        go_wp2_with fail
        refine (HNX.out _).mono ?_
        rintro e _ ⟨rfl, rfl⟩
        go_wp2_with fail
        refine (HNY.out _).mono ?_
        rintro e _ ⟨rfl, rfl⟩
        go_wp2_with fail
        refine (HNM.out _).mono ?_
        rintro e _ ⟨rfl, rfl⟩
        go_wp2_with fail
        refine (HND.out _).mono ?_
        rintro e _ ⟨rfl, rfl⟩
        go_wp2_with fail
        refine (HKX.out _).mono ?_
        rintro e _ ⟨rfl, rfl⟩
        go_wp2_with fail
        refine (HKY.out _).mono ?_
        rintro e _ ⟨rfl, rfl⟩
        go_wp2_with fail
        refine (fn_24 kx _).mono ?_
        rintro e _ ⟨rfl, rfl⟩
        go_wp2_with fail
        refine (fn_25 kx _).mono ?_
        rintro e _ ⟨rfl, rfl⟩
        go_wp2_with fail
        refine (fn_24 kx _).mono ?_
        rintro e _ ⟨rfl, rfl⟩
        go_wp2_with fail
        refine (fn_25 kx _).mono ?_
        rintro e _ ⟨rfl, rfl⟩
        go_wp2_with fail
        refine (HD2.out _).mono ?_
        rintro e w35 ⟨rfl, hN⟩
        replace hB := hB.trans (hN.mono hB.size)
        clear hN
        go_wp2_with fail
        refine (fn_24 kx _).mono ?_
        rintro e _ ⟨rfl, rfl⟩
        go_wp2_with fail
        refine (fn_24 kx _).mono ?_
        rintro e _ ⟨rfl, rfl⟩
        go_wp2_with fail
        refine (fn_25 ky _).mono ?_
        rintro e _ ⟨rfl, rfl⟩
        go_wp2_with fail
        refine (fn_25 kx _).mono ?_
        rintro e _ ⟨rfl, rfl⟩
        go_wp2_with fail
        refine (HSX.out _).mono ?_
        rintro e _ ⟨rfl, rfl⟩
        go_wp2_with fail
        go_ret
        exact ⟨rfl, hB⟩
      · have em' : (FloatKind.f64.format.order m m == some .eq) = true := em
        have nem' : (FloatKind.f64.format.order m m != some .eq) = false := nem
        have ed' : (FloatKind.f64.format.order d d == some .eq) = true := ed
        have ned' : (FloatKind.f64.format.order d d != some .eq) = false := ned
        have nes' : (FloatKind.f64.format.order s s != some .eq) = false := by simpa using nes
        clear em nem ed ned nes
        have nm : nanq m = false := E.nm
        have NM := fun W => negative_num m W E.lm nm
        rw [E.gm nm] at NM
        clear nm
        have nd : nanq d = false := E.nd
        have ND := fun W => negative_num d W E.ld nd
        rw [E.gd nd] at ND
        clear nd
        have EE := Lib.hid E
        clear E
        have HD4 := Lib.hid D4
        clear D4
        have HD5 := Lib.hid D5
        clear D5
        have HD2 := Lib.hid D2
        clear D2
        have HNX := Lib.hid NX
        clear NX
        have HNY := Lib.hid NY
        clear NY
        have HKX := Lib.hid KX
        clear KX
        have HKY := Lib.hid KY
        clear KY
        have HNM := Lib.hid NM
        clear NM
        have HND := Lib.hid ND
        clear ND
        go_wp2_with fail
        refine (HD4.out _).mono ?_
        rintro e w36 ⟨rfl, hN⟩
        replace hB := hB.trans (hN.mono hB.size)
        clear hN
        clear tx ty
        go_wp2_with fail
        refine (HD5.out _).mono ?_
        rintro e w37 ⟨rfl, hN⟩
        replace hB := hB.trans (hN.mono hB.size)
        clear hN
        go_wp2_with fail
        refine (HNX.out _).mono ?_
        rintro e _ ⟨rfl, rfl⟩
        go_wp2_with fail
        refine (HNY.out _).mono ?_
        rintro e _ ⟨rfl, rfl⟩
        go_wp2_with fail
        refine (HNM.out _).mono ?_
        rintro e _ ⟨rfl, rfl⟩
        go_wp2_with fail
        refine (HND.out _).mono ?_
        rintro e _ ⟨rfl, rfl⟩
        go_wp2_with fail
        refine (HKX.out _).mono ?_
        rintro e _ ⟨rfl, rfl⟩
        go_wp2_with fail
        refine (HKY.out _).mono ?_
        rintro e _ ⟨rfl, rfl⟩
        go_wp2_with fail
        refine (fn_24 kx _).mono ?_
        rintro e _ ⟨rfl, rfl⟩
        go_wp2_with fail
        refine (fn_25 kx _).mono ?_
        rintro e _ ⟨rfl, rfl⟩
        go_wp2_with fail
        refine (fn_24 kx _).mono ?_
        rintro e _ ⟨rfl, rfl⟩
        go_wp2_with fail
        refine (fn_25 kx _).mono ?_
        rintro e _ ⟨rfl, rfl⟩
        go_wp2_with fail
        refine (HD2.out _).mono ?_
        rintro e w38 ⟨rfl, hN⟩
        replace hB := hB.trans (hN.mono hB.size)
        clear hN
        go_wp2_with fail
        refine (fn_24 kx _).mono ?_
        rintro e _ ⟨rfl, rfl⟩
        go_wp2_with fail
        refine (fn_24 kx _).mono ?_
        rintro e _ ⟨rfl, rfl⟩
        go_wp2_with fail
        refine (fn_25 ky _).mono ?_
        rintro e _ ⟨rfl, rfl⟩
        go_wp2_with fail
        go_ret
        exact ⟨rfl, hB⟩
end Go.Proofs.Ytajipgcnpemifaa
