/-
  No cell of these rows narrows 'for every input' (looked for: loops, veiled, ifaces, maps, wideKeys, modest, calm, conditions, laid).
  DERIVED. THE GIVEN ROWS OF THIS SEAT. 7 by the template 'for every input the law returns true; each argument reads behind the call as it read before'; 0 by the template 'total and deterministic' (their statements: YtadoobkieehajaaTotals.lean).
  GIVEN WITH THE SEED: the statements are not yours to turn. If you find one false, say at which input.
  Laid BY PROGRAM, IN A SANDBOX (cutbox-rows.mjs): the forced cells as the released guide's own fill.sh prints them over the translation cd3c53275b38ef17… (all of the seat's roots in one cut). By AI agents, Wed Nov 11 2026. No macro, syntax, notation, axiom, sorry.
-/
import Derived.Test.YtadoobkieehajaaChecked
import GoSem.Claim
import GoSem.ClaimJoined
import GoSem.ClaimMapViews
import Derived.JoinedTies
import Derived.KernelRfl
namespace Go.Proofs.Ytadoobkieehajaa
/- THE CELL 'sum', in the pinned program and in every row, IS THE sha256 OF THE DUMP (.gsa) THAT YtadoobkieehajaaProg.lean LOADS. Nothing in Lean hashes anything: it is a label: what it is worth is what the hold of that sum in a sandbox is worth. -/
noncomputable def Try.pinned : Pinned := { name := "ytadoobkieehajaa", sum := "cd3c53275b38ef177a7c2e2e6d7b976c9bb3ba311ed3714b9b581790d8f4abf5", checked := Try.checked }
namespace Rows
def none {H : Type} : Left H := { results := [], args := [] }

/-- 'reparteelaw31.BufferKeeps': WHATEVER THE INPUT: true; the input reads as it did. -/
def bufferKeepsSpec : ChangeSpec := { name := "bufferKeeps", fn := fun _ => fun
  | [d1, d2, d3, d4] => { results := [.lit (.bool true)], args := [d1, d2, d3, d4] }
  | _ => none }
def bufferKeepsRow : OpenClaim := { program := "ytadoobkieehajaa", sum := "cd3c53275b38ef177a7c2e2e6d7b976c9bb3ba311ed3714b9b581790d8f4abf5", func := "repartee/reparteelaw31.BufferKeeps", spec := "bufferKeeps", unfollowed := true, recurses := true, apart := false }
def BufferKeepsSaid : Prop := bufferKeepsRow.holds Try.pinned (OpenSpec.ofChange bufferKeepsSpec)

/-- ITS FALSE NEIGHBOUR: 'it returns false'. Refute it at one input. -/
def bufferKeepsWrong : ChangeSpec := { name := "bufferKeeps", fn := fun _ => fun
  | [d1, d2, d3, d4] => { results := [.lit (.bool false)], args := [d1, d2, d3, d4] }
  | _ => none }
def BufferKeepsWrongFalsely : Prop := bufferKeepsRow.holds Try.pinned (OpenSpec.ofChange bufferKeepsWrong)

/-- 'reparteelaw31.BufferRoom': WHATEVER THE INPUT: true; the input reads as it did. -/
def bufferRoomSpec : ChangeSpec := { name := "bufferRoom", fn := fun _ => fun
  | [d1, d2, d3] => { results := [.lit (.bool true)], args := [d1, d2, d3] }
  | _ => none }
def bufferRoomRow : OpenClaim := { program := "ytadoobkieehajaa", sum := "cd3c53275b38ef177a7c2e2e6d7b976c9bb3ba311ed3714b9b581790d8f4abf5", func := "repartee/reparteelaw31.BufferRoom", spec := "bufferRoom", unfollowed := true, recurses := true, apart := false }
def BufferRoomSaid : Prop := bufferRoomRow.holds Try.pinned (OpenSpec.ofChange bufferRoomSpec)

/-- ITS FALSE NEIGHBOUR: 'it returns false'. Refute it at one input. -/
def bufferRoomWrong : ChangeSpec := { name := "bufferRoom", fn := fun _ => fun
  | [d1, d2, d3] => { results := [.lit (.bool false)], args := [d1, d2, d3] }
  | _ => none }
def BufferRoomWrongFalsely : Prop := bufferRoomRow.holds Try.pinned (OpenSpec.ofChange bufferRoomWrong)

/-- 'reparteelaw31.BufferWrong': WHATEVER THE INPUT: true; the input reads as it did. -/
def bufferWrongSpec : ChangeSpec := { name := "bufferWrong", fn := fun _ => fun
  | [d1, d2, d3] => { results := [.lit (.bool true)], args := [d1, d2, d3] }
  | _ => none }
def bufferWrongRow : OpenClaim := { program := "ytadoobkieehajaa", sum := "cd3c53275b38ef177a7c2e2e6d7b976c9bb3ba311ed3714b9b581790d8f4abf5", func := "repartee/reparteelaw31.BufferWrong", spec := "bufferWrong", unfollowed := true, recurses := true, apart := false }
def BufferWrongSaid : Prop := bufferWrongRow.holds Try.pinned (OpenSpec.ofChange bufferWrongSpec)

/-- ITS FALSE NEIGHBOUR: 'it returns false'. Refute it at one input. -/
def bufferWrongWrong : ChangeSpec := { name := "bufferWrong", fn := fun _ => fun
  | [d1, d2, d3] => { results := [.lit (.bool false)], args := [d1, d2, d3] }
  | _ => none }
def BufferWrongWrongFalsely : Prop := bufferWrongRow.holds Try.pinned (OpenSpec.ofChange bufferWrongWrong)

/-- 'reparteelaw31.BufferFinds': WHATEVER THE INPUT: true; the input reads as it did. -/
def bufferFindsSpec : ChangeSpec := { name := "bufferFinds", fn := fun _ => fun
  | [d1, d2, d3, d4] => { results := [.lit (.bool true)], args := [d1, d2, d3, d4] }
  | _ => none }
def bufferFindsRow : OpenClaim := { program := "ytadoobkieehajaa", sum := "cd3c53275b38ef177a7c2e2e6d7b976c9bb3ba311ed3714b9b581790d8f4abf5", func := "repartee/reparteelaw31.BufferFinds", spec := "bufferFinds", unfollowed := true, recurses := true, apart := false }
def BufferFindsSaid : Prop := bufferFindsRow.holds Try.pinned (OpenSpec.ofChange bufferFindsSpec)

/-- ITS FALSE NEIGHBOUR: 'it returns false'. Refute it at one input. -/
def bufferFindsWrong : ChangeSpec := { name := "bufferFinds", fn := fun _ => fun
  | [d1, d2, d3, d4] => { results := [.lit (.bool false)], args := [d1, d2, d3, d4] }
  | _ => none }
def BufferFindsWrongFalsely : Prop := bufferFindsRow.holds Try.pinned (OpenSpec.ofChange bufferFindsWrong)

/-- 'reparteelaw31.BufferApart': WHATEVER THE INPUT: true; the input reads as it did. -/
def bufferApartSpec : ChangeSpec := { name := "bufferApart", fn := fun _ => fun
  | [d1, d2, d3, d4, d5] => { results := [.lit (.bool true)], args := [d1, d2, d3, d4, d5] }
  | _ => none }
def bufferApartRow : OpenClaim := { program := "ytadoobkieehajaa", sum := "cd3c53275b38ef177a7c2e2e6d7b976c9bb3ba311ed3714b9b581790d8f4abf5", func := "repartee/reparteelaw31.BufferApart", spec := "bufferApart", unfollowed := true, recurses := true, apart := false }
def BufferApartSaid : Prop := bufferApartRow.holds Try.pinned (OpenSpec.ofChange bufferApartSpec)

/-- ITS FALSE NEIGHBOUR: 'it returns false'. Refute it at one input. -/
def bufferApartWrong : ChangeSpec := { name := "bufferApart", fn := fun _ => fun
  | [d1, d2, d3, d4, d5] => { results := [.lit (.bool false)], args := [d1, d2, d3, d4, d5] }
  | _ => none }
def BufferApartWrongFalsely : Prop := bufferApartRow.holds Try.pinned (OpenSpec.ofChange bufferApartWrong)

/-- 'reparteelaw31.BufferDoes': WHATEVER THE INPUT: true; the input reads as it did. -/
def bufferDoesSpec : ChangeSpec := { name := "bufferDoes", fn := fun _ => fun
  | [d1, d2, d3, d4] => { results := [.lit (.bool true)], args := [d1, d2, d3, d4] }
  | _ => none }
def bufferDoesRow : OpenClaim := { program := "ytadoobkieehajaa", sum := "cd3c53275b38ef177a7c2e2e6d7b976c9bb3ba311ed3714b9b581790d8f4abf5", func := "repartee/reparteelaw31.BufferDoes", spec := "bufferDoes", unfollowed := true, recurses := true, apart := false }
def BufferDoesSaid : Prop := bufferDoesRow.holds Try.pinned (OpenSpec.ofChange bufferDoesSpec)

/-- ITS FALSE NEIGHBOUR: 'it returns false'. Refute it at one input. -/
def bufferDoesWrong : ChangeSpec := { name := "bufferDoes", fn := fun _ => fun
  | [d1, d2, d3, d4] => { results := [.lit (.bool false)], args := [d1, d2, d3, d4] }
  | _ => none }
def BufferDoesWrongFalsely : Prop := bufferDoesRow.holds Try.pinned (OpenSpec.ofChange bufferDoesWrong)

/-- 'reparteelaw31.BufferSmall': WHATEVER THE INPUT: true; the input reads as it did. -/
def bufferSmallSpec : ChangeSpec := { name := "bufferSmall", fn := fun _ => fun
  | [] => { results := [.lit (.bool true)], args := [] }
  | _ => none }
def bufferSmallRow : OpenClaim := { program := "ytadoobkieehajaa", sum := "cd3c53275b38ef177a7c2e2e6d7b976c9bb3ba311ed3714b9b581790d8f4abf5", func := "repartee/reparteelaw31.BufferSmall", spec := "bufferSmall", unfollowed := true, recurses := true, apart := false }
def BufferSmallSaid : Prop := bufferSmallRow.holds Try.pinned (OpenSpec.ofChange bufferSmallSpec)

/-- ITS FALSE NEIGHBOUR: 'it returns false'. Refute it at one input. -/
def bufferSmallWrong : ChangeSpec := { name := "bufferSmall", fn := fun _ => fun
  | [] => { results := [.lit (.bool false)], args := [] }
  | _ => none }
def BufferSmallWrongFalsely : Prop := bufferSmallRow.holds Try.pinned (OpenSpec.ofChange bufferSmallWrong)

/- THE SECOND FORM. 'bulk': how many values and letters a reading holds, each counted each time it is reached (what is shared counts as often as it is met; a slice's spare places count too). A statement '..UptoSaid' is the law's where the arguments, and the package variables that the reading takes, are together of bulk at most 1048576: NARROWER than '..Said'. Prove '..Said' where nothing that the law and all that it calls make is longer than what came in: it says more and counts as full. Else prove '..UptoSaid'. A law counts once. -/
mutual
def uptoBulk {H : Type} : DataW H → Nat
  | .lit (.string bytes) => bytes.length + 1
  | .lit _ => 1
  | .nil => 1
  | .ptr d => uptoBulk d + 1
  | .slice elems spare => uptoBulkAll elems + uptoBulkAll spare + 1
  | .agg parts => uptoBulkAll parts + 1
  | .iface _ d => uptoBulk d + 1
  | .map entries => uptoBulkEntries entries + 1
  | .held _ => 1
def uptoBulkAll {H : Type} : List (DataW H) → Nat
  | [] => 0
  | d :: r => uptoBulk d + uptoBulkAll r
def uptoBulkEntries {H : Type} : List (Lit × DataW H) → Nat
  | [] => 0
  | x :: r => uptoBulkEntry x + uptoBulkEntries r
def uptoBulkEntry {H : Type} : Lit × DataW H → Nat
  | (.string bytes, d) => bytes.length + uptoBulk d + 1
  | (_, d) => uptoBulk d + 1
 end
def uptoSmall : (H : Type) → List (DataW H) → Bool := fun _ ds => decide (uptoBulkAll ds ≤ 1048576)
def OpenSpec.upto (s : _root_.Go.ChangeSpec) : _root_.Go.OpenSpec := { _root_.Go.OpenSpec.ofChange s with cond := some uptoSmall }

/-- 'reparteelaw31.BufferKeeps', WHERE WHAT IT READS IS OF BULK AT MOST 1048576: true; the input reads as it did. -/
def bufferKeepsUptoRow : OpenClaim := { program := "ytadoobkieehajaa", sum := "cd3c53275b38ef177a7c2e2e6d7b976c9bb3ba311ed3714b9b581790d8f4abf5", func := "repartee/reparteelaw31.BufferKeeps", spec := "bufferKeeps", unfollowed := true, recurses := true, apart := false, narrowed := true }
def BufferKeepsUptoSaid : Prop := bufferKeepsUptoRow.holds Try.pinned (OpenSpec.upto bufferKeepsSpec)

/-- 'reparteelaw31.BufferRoom', WHERE WHAT IT READS IS OF BULK AT MOST 1048576: true; the input reads as it did. -/
def bufferRoomUptoRow : OpenClaim := { program := "ytadoobkieehajaa", sum := "cd3c53275b38ef177a7c2e2e6d7b976c9bb3ba311ed3714b9b581790d8f4abf5", func := "repartee/reparteelaw31.BufferRoom", spec := "bufferRoom", unfollowed := true, recurses := true, apart := false, narrowed := true }
def BufferRoomUptoSaid : Prop := bufferRoomUptoRow.holds Try.pinned (OpenSpec.upto bufferRoomSpec)

/-- 'reparteelaw31.BufferWrong', WHERE WHAT IT READS IS OF BULK AT MOST 1048576: true; the input reads as it did. -/
def bufferWrongUptoRow : OpenClaim := { program := "ytadoobkieehajaa", sum := "cd3c53275b38ef177a7c2e2e6d7b976c9bb3ba311ed3714b9b581790d8f4abf5", func := "repartee/reparteelaw31.BufferWrong", spec := "bufferWrong", unfollowed := true, recurses := true, apart := false, narrowed := true }
def BufferWrongUptoSaid : Prop := bufferWrongUptoRow.holds Try.pinned (OpenSpec.upto bufferWrongSpec)

/-- 'reparteelaw31.BufferFinds', WHERE WHAT IT READS IS OF BULK AT MOST 1048576: true; the input reads as it did. -/
def bufferFindsUptoRow : OpenClaim := { program := "ytadoobkieehajaa", sum := "cd3c53275b38ef177a7c2e2e6d7b976c9bb3ba311ed3714b9b581790d8f4abf5", func := "repartee/reparteelaw31.BufferFinds", spec := "bufferFinds", unfollowed := true, recurses := true, apart := false, narrowed := true }
def BufferFindsUptoSaid : Prop := bufferFindsUptoRow.holds Try.pinned (OpenSpec.upto bufferFindsSpec)

/-- 'reparteelaw31.BufferApart', WHERE WHAT IT READS IS OF BULK AT MOST 1048576: true; the input reads as it did. -/
def bufferApartUptoRow : OpenClaim := { program := "ytadoobkieehajaa", sum := "cd3c53275b38ef177a7c2e2e6d7b976c9bb3ba311ed3714b9b581790d8f4abf5", func := "repartee/reparteelaw31.BufferApart", spec := "bufferApart", unfollowed := true, recurses := true, apart := false, narrowed := true }
def BufferApartUptoSaid : Prop := bufferApartUptoRow.holds Try.pinned (OpenSpec.upto bufferApartSpec)

/-- 'reparteelaw31.BufferDoes', WHERE WHAT IT READS IS OF BULK AT MOST 1048576: true; the input reads as it did. -/
def bufferDoesUptoRow : OpenClaim := { program := "ytadoobkieehajaa", sum := "cd3c53275b38ef177a7c2e2e6d7b976c9bb3ba311ed3714b9b581790d8f4abf5", func := "repartee/reparteelaw31.BufferDoes", spec := "bufferDoes", unfollowed := true, recurses := true, apart := false, narrowed := true }
def BufferDoesUptoSaid : Prop := bufferDoesUptoRow.holds Try.pinned (OpenSpec.upto bufferDoesSpec)

/-- 'reparteelaw31.BufferSmall', WHERE WHAT IT READS IS OF BULK AT MOST 1048576: true; the input reads as it did. -/
def bufferSmallUptoRow : OpenClaim := { program := "ytadoobkieehajaa", sum := "cd3c53275b38ef177a7c2e2e6d7b976c9bb3ba311ed3714b9b581790d8f4abf5", func := "repartee/reparteelaw31.BufferSmall", spec := "bufferSmall", unfollowed := true, recurses := true, apart := false, narrowed := true }
def BufferSmallUptoSaid : Prop := bufferSmallUptoRow.holds Try.pinned (OpenSpec.upto bufferSmallSpec)

end Rows
end Go.Proofs.Ytadoobkieehajaa
