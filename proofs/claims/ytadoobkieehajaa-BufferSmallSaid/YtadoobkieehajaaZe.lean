/- One act, whatever it is. -/
import Derived.Test.YtadoobkieehajaaZa
import Derived.Test.YtadoobkieehajaaZb
import Derived.Test.YtadoobkieehajaaZc
import Derived.Test.YtadoobkieehajaaZd
namespace Go.Proofs.Ytadoobkieehajaa
open Go.RowKit Go.Shelf

theorem do_any (b s o g n cap : Nat) (ad : Option Addr) (all : List UInt8) (kind c : UInt8) (nn : Int) (ax : Option Addr) (m cx : Nat) (xs : List UInt8) (w : World) (hB : IsBuf w b s (o + g) (all.drop g)) (hR : RefS w b ad n cap g all) (hn : n ≤ 90000) (ho1 : (o : Int) ≤ 281474976710656)
    (hx : Slc w ax xs) (hxb : xs = [] ∨ ∀ y, ax = some y → y.block ≠ b) (hm : xs.length = m) (hmc : m ≤ cx) (hmb : m ≤ 100000) :
    Calls Try.prog 35 #[.pointer (some ⟨b, 0, none⟩), .agg #[.int .i64 s, .int .i64 o, .slice ad n cap, .int .i64 g], .agg #[.int .u8 kind.toNat, .int .u8 c.toNat, .int .i64 nn, .slice ax m cx]] w fun e w' => ∃ (ad' : Option Addr) (n' cap' g' : Nat) (all' : List UInt8), e = .returned (.tuple #[.agg #[.int .i64 s, .int .i64 o, .slice ad' n' cap', .int .i64 g'], .bool true]) ∧ IsBuf w' b s (o + g') (all'.drop g') ∧ RefS w' b ad' n' cap' g' all' ∧ n' ≤ n + 1 ∧ w.grownBy w' (some b) ∧ (ad' = ad ∨ ∀ y, ad' = some y → w.heap.size ≤ y.block) := by
  have h8 : (kind.toNat : Int) % 8 < 4 ∨ (kind.toNat : Int) % 8 = 4 ∨ (kind.toNat : Int) % 8 = 5 ∨ (kind.toNat : Int) % 8 = 6 ∨ (kind.toNat : Int) % 8 = 7 := by omega
  rcases h8 with h | h | h | h | h
  · exact do_put b s o g n cap ad all kind c nn ax m cx xs w hB hR hn ho1 hx hxb hm hmc hmb (kind.toNat % 8) (by omega) (by omega)
  · by_cases hbad : nn < 0 ∨ (0 ≤ nn ∧ ((n - g : Nat) : Int) < nn)
    · exact do_take_bad b s o g n cap ad all kind c nn ax m cx xs w hB hR hn ho1 hx hxb hm hmc hmb hbad h
    · exact do_take_ok b s o g n cap ad all kind c nn ax m cx xs w hB hR hn ho1 hx hxb hm hmc hmb nn.toNat (by omega) h (by omega)
  · exact do_discard b s o g n cap ad all kind c nn ax m cx xs w hB hR hn ho1 hx hxb hm hmc hmb h
  · exact do_find b s o g n cap ad all kind c nn ax m cx xs w hB hR hn ho1 hx hxb hm hmc hmb h
  · exact do_copy b s o g n cap ad all kind c nn ax m cx xs w hB hR hn ho1 hx hxb hm hmc hmb h
end Go.Proofs.Ytadoobkieehajaa
