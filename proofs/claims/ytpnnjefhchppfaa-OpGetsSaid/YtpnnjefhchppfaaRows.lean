/-
  No cell of these rows narrows 'for every input' (looked for: loops, veiled, ifaces, maps, wideKeys, modest, calm, conditions, laid).
  DERIVED. THE GIVEN ROWS OF THIS SEAT. 6 by the template 'for every input the law returns true; each argument reads behind the call as it read before'; 0 by the template 'total and deterministic' (their statements: YtpnnjefhchppfaaTotals.lean).
  GIVEN WITH THE SEED: the statements are not yours to turn. If you find one false, say at which input.
  Laid BY PROGRAM, IN A SANDBOX (cutbox-rows.mjs): the forced cells as the released guide's own fill.sh prints them over the translation 8dd2b28e99de90af… (all of the seat's roots in one cut). By AI agents, Wed Nov 11 2026. No macro, syntax, notation, axiom, sorry.
-/
import Derived.Test.YtpnnjefhchppfaaChecked
import GoSem.Claim
import GoSem.ClaimJoined
import GoSem.ClaimMapViews
import Derived.JoinedTies
import Derived.KernelRfl
namespace Go.Proofs.Ytpnnjefhchppfaa
/- THE CELL 'sum', in the pinned program and in every row, IS THE sha256 OF THE DUMP (.gsa) THAT YtpnnjefhchppfaaProg.lean LOADS. Nothing in Lean hashes anything: it is a label: what it is worth is what the hold of that sum in a sandbox is worth. -/
noncomputable def Try.pinned : Pinned := { name := "ytpnnjefhchppfaa", sum := "8dd2b28e99de90af254b6c65538e38fd96330de9e6af9ac032587d9d8d36541a", checked := Try.checked }
namespace Rows
def none {H : Type} : Left H := { results := [], args := [] }

/-- 'stemmalaw07.OpPuts': WHATEVER THE INPUT: true; the input reads as it did. -/
def opPutsSpec : ChangeSpec := { name := "opPuts", fn := fun _ => fun
  | [d] => { results := [.lit (.bool true)], args := [d] }
  | _ => none }
def opPutsRow : OpenClaim := { program := "ytpnnjefhchppfaa", sum := "8dd2b28e99de90af254b6c65538e38fd96330de9e6af9ac032587d9d8d36541a", func := "stemma/stemmalaw07.OpPuts", spec := "opPuts", unfollowed := true, recurses := true, apart := false }
def OpPutsSaid : Prop := opPutsRow.holds Try.pinned (OpenSpec.ofChange opPutsSpec)

/-- ITS FALSE NEIGHBOUR: 'it returns false'. Refute it at one input. -/
def opPutsWrong : ChangeSpec := { name := "opPuts", fn := fun _ => fun
  | [d] => { results := [.lit (.bool false)], args := [d] }
  | _ => none }
def OpPutsWrongFalsely : Prop := opPutsRow.holds Try.pinned (OpenSpec.ofChange opPutsWrong)

/-- 'stemmalaw07.OpChecks': WHATEVER THE INPUT: true; the input reads as it did. -/
def opChecksSpec : ChangeSpec := { name := "opChecks", fn := fun _ => fun
  | [d] => { results := [.lit (.bool true)], args := [d] }
  | _ => none }
def opChecksRow : OpenClaim := { program := "ytpnnjefhchppfaa", sum := "8dd2b28e99de90af254b6c65538e38fd96330de9e6af9ac032587d9d8d36541a", func := "stemma/stemmalaw07.OpChecks", spec := "opChecks", unfollowed := true, recurses := true, apart := false }
def OpChecksSaid : Prop := opChecksRow.holds Try.pinned (OpenSpec.ofChange opChecksSpec)

/-- ITS FALSE NEIGHBOUR: 'it returns false'. Refute it at one input. -/
def opChecksWrong : ChangeSpec := { name := "opChecks", fn := fun _ => fun
  | [d] => { results := [.lit (.bool false)], args := [d] }
  | _ => none }
def OpChecksWrongFalsely : Prop := opChecksRow.holds Try.pinned (OpenSpec.ofChange opChecksWrong)

/-- 'stemmalaw07.OpGets': WHATEVER THE INPUT: true; the input reads as it did. -/
def opGetsSpec : ChangeSpec := { name := "opGets", fn := fun _ => fun
  | [d] => { results := [.lit (.bool true)], args := [d] }
  | _ => none }
def opGetsRow : OpenClaim := { program := "ytpnnjefhchppfaa", sum := "8dd2b28e99de90af254b6c65538e38fd96330de9e6af9ac032587d9d8d36541a", func := "stemma/stemmalaw07.OpGets", spec := "opGets", unfollowed := true, recurses := true, apart := false }
def OpGetsSaid : Prop := opGetsRow.holds Try.pinned (OpenSpec.ofChange opGetsSpec)

/-- ITS FALSE NEIGHBOUR: 'it returns false'. Refute it at one input. -/
def opGetsWrong : ChangeSpec := { name := "opGets", fn := fun _ => fun
  | [d] => { results := [.lit (.bool false)], args := [d] }
  | _ => none }
def OpGetsWrongFalsely : Prop := opGetsRow.holds Try.pinned (OpenSpec.ofChange opGetsWrong)

/-- 'stemmalaw07.OpSames': WHATEVER THE INPUT: true; the input reads as it did. -/
def opSamesSpec : ChangeSpec := { name := "opSames", fn := fun _ => fun
  | [d1, d2] => { results := [.lit (.bool true)], args := [d1, d2] }
  | _ => none }
def opSamesRow : OpenClaim := { program := "ytpnnjefhchppfaa", sum := "8dd2b28e99de90af254b6c65538e38fd96330de9e6af9ac032587d9d8d36541a", func := "stemma/stemmalaw07.OpSames", spec := "opSames", unfollowed := true, recurses := true, apart := false }
def OpSamesSaid : Prop := opSamesRow.holds Try.pinned (OpenSpec.ofChange opSamesSpec)

/-- ITS FALSE NEIGHBOUR: 'it returns false'. Refute it at one input. -/
def opSamesWrong : ChangeSpec := { name := "opSames", fn := fun _ => fun
  | [d1, d2] => { results := [.lit (.bool false)], args := [d1, d2] }
  | _ => none }
def OpSamesWrongFalsely : Prop := opSamesRow.holds Try.pinned (OpenSpec.ofChange opSamesWrong)

/-- 'stemmalaw07.OpBack': WHATEVER THE INPUT: true; the input reads as it did. -/
def opBackSpec : ChangeSpec := { name := "opBack", fn := fun _ => fun
  | [d1, d2] => { results := [.lit (.bool true)], args := [d1, d2] }
  | _ => none }
def opBackRow : OpenClaim := { program := "ytpnnjefhchppfaa", sum := "8dd2b28e99de90af254b6c65538e38fd96330de9e6af9ac032587d9d8d36541a", func := "stemma/stemmalaw07.OpBack", spec := "opBack", unfollowed := true, recurses := true, apart := false }
def OpBackSaid : Prop := opBackRow.holds Try.pinned (OpenSpec.ofChange opBackSpec)

/-- ITS FALSE NEIGHBOUR: 'it returns false'. Refute it at one input. -/
def opBackWrong : ChangeSpec := { name := "opBack", fn := fun _ => fun
  | [d1, d2] => { results := [.lit (.bool false)], args := [d1, d2] }
  | _ => none }
def OpBackWrongFalsely : Prop := opBackRow.holds Try.pinned (OpenSpec.ofChange opBackWrong)

/-- 'stemmalaw07.OpMost': WHATEVER THE INPUT: true; the input reads as it did. -/
def opMostSpec : ChangeSpec := { name := "opMost", fn := fun _ => fun
  | [d] => { results := [.lit (.bool true)], args := [d] }
  | _ => none }
def opMostRow : OpenClaim := { program := "ytpnnjefhchppfaa", sum := "8dd2b28e99de90af254b6c65538e38fd96330de9e6af9ac032587d9d8d36541a", func := "stemma/stemmalaw07.OpMost", spec := "opMost", unfollowed := true, recurses := true, apart := false }
def OpMostSaid : Prop := opMostRow.holds Try.pinned (OpenSpec.ofChange opMostSpec)

/-- ITS FALSE NEIGHBOUR: 'it returns false'. Refute it at one input. -/
def opMostWrong : ChangeSpec := { name := "opMost", fn := fun _ => fun
  | [d] => { results := [.lit (.bool false)], args := [d] }
  | _ => none }
def OpMostWrongFalsely : Prop := opMostRow.holds Try.pinned (OpenSpec.ofChange opMostWrong)

/- THE SECOND FORM. 'bulk': how many values and letters a reading holds, each counted each time it is reached (what is shared counts as often as it is met; a slice's spare places count too). A statement '..UptoSaid' is the law's where the arguments, and the package variables that the reading takes, are together of bulk at most 1048576: NARROWER than '..Said'. Prove '..Said' where nothing that the law and all that it calls make is longer than what came in: it says more and counts as full. Else prove '..UptoSaid'. A law counts once. -/
mutual
def uptoBulk {H : Type} : DataW H → Nat
  | .lit (.string bytes) => bytes.length + 1
  | .lit _ => 1
  | .nil => 1
  | .ptr d => uptoBulk d + 1
  | .slice elems spare => uptoBulkAll elems + uptoBulkAll spare + 1
  | .agg parts => uptoBulkAll parts + 1
  | .iface _ d => uptoBulk d + 1
  | .map entries => uptoBulkEntries entries + 1
  | .held _ => 1
def uptoBulkAll {H : Type} : List (DataW H) → Nat
  | [] => 0
  | d :: r => uptoBulk d + uptoBulkAll r
def uptoBulkEntries {H : Type} : List (Lit × DataW H) → Nat
  | [] => 0
  | x :: r => uptoBulkEntry x + uptoBulkEntries r
def uptoBulkEntry {H : Type} : Lit × DataW H → Nat
  | (.string bytes, d) => bytes.length + uptoBulk d + 1
  | (_, d) => uptoBulk d + 1
 end
def uptoSmall : (H : Type) → List (DataW H) → Bool := fun _ ds => decide (uptoBulkAll ds ≤ 1048576)
def OpenSpec.upto (s : _root_.Go.ChangeSpec) : _root_.Go.OpenSpec := { _root_.Go.OpenSpec.ofChange s with cond := some uptoSmall }

/-- 'stemmalaw07.OpPuts', WHERE WHAT IT READS IS OF BULK AT MOST 1048576: true; the input reads as it did. -/
def opPutsUptoRow : OpenClaim := { program := "ytpnnjefhchppfaa", sum := "8dd2b28e99de90af254b6c65538e38fd96330de9e6af9ac032587d9d8d36541a", func := "stemma/stemmalaw07.OpPuts", spec := "opPuts", unfollowed := true, recurses := true, apart := false, narrowed := true }
def OpPutsUptoSaid : Prop := opPutsUptoRow.holds Try.pinned (OpenSpec.upto opPutsSpec)

/-- 'stemmalaw07.OpChecks', WHERE WHAT IT READS IS OF BULK AT MOST 1048576: true; the input reads as it did. -/
def opChecksUptoRow : OpenClaim := { program := "ytpnnjefhchppfaa", sum := "8dd2b28e99de90af254b6c65538e38fd96330de9e6af9ac032587d9d8d36541a", func := "stemma/stemmalaw07.OpChecks", spec := "opChecks", unfollowed := true, recurses := true, apart := false, narrowed := true }
def OpChecksUptoSaid : Prop := opChecksUptoRow.holds Try.pinned (OpenSpec.upto opChecksSpec)

/-- 'stemmalaw07.OpGets', WHERE WHAT IT READS IS OF BULK AT MOST 1048576: true; the input reads as it did. -/
def opGetsUptoRow : OpenClaim := { program := "ytpnnjefhchppfaa", sum := "8dd2b28e99de90af254b6c65538e38fd96330de9e6af9ac032587d9d8d36541a", func := "stemma/stemmalaw07.OpGets", spec := "opGets", unfollowed := true, recurses := true, apart := false, narrowed := true }
def OpGetsUptoSaid : Prop := opGetsUptoRow.holds Try.pinned (OpenSpec.upto opGetsSpec)

/-- 'stemmalaw07.OpSames', WHERE WHAT IT READS IS OF BULK AT MOST 1048576: true; the input reads as it did. -/
def opSamesUptoRow : OpenClaim := { program := "ytpnnjefhchppfaa", sum := "8dd2b28e99de90af254b6c65538e38fd96330de9e6af9ac032587d9d8d36541a", func := "stemma/stemmalaw07.OpSames", spec := "opSames", unfollowed := true, recurses := true, apart := false, narrowed := true }
def OpSamesUptoSaid : Prop := opSamesUptoRow.holds Try.pinned (OpenSpec.upto opSamesSpec)

/-- 'stemmalaw07.OpBack', WHERE WHAT IT READS IS OF BULK AT MOST 1048576: true; the input reads as it did. -/
def opBackUptoRow : OpenClaim := { program := "ytpnnjefhchppfaa", sum := "8dd2b28e99de90af254b6c65538e38fd96330de9e6af9ac032587d9d8d36541a", func := "stemma/stemmalaw07.OpBack", spec := "opBack", unfollowed := true, recurses := true, apart := false, narrowed := true }
def OpBackUptoSaid : Prop := opBackUptoRow.holds Try.pinned (OpenSpec.upto opBackSpec)

/-- 'stemmalaw07.OpMost', WHERE WHAT IT READS IS OF BULK AT MOST 1048576: true; the input reads as it did. -/
def opMostUptoRow : OpenClaim := { program := "ytpnnjefhchppfaa", sum := "8dd2b28e99de90af254b6c65538e38fd96330de9e6af9ac032587d9d8d36541a", func := "stemma/stemmalaw07.OpMost", spec := "opMost", unfollowed := true, recurses := true, apart := false, narrowed := true }
def OpMostUptoSaid : Prop := opMostUptoRow.holds Try.pinned (OpenSpec.upto opMostSpec)

end Rows
end Go.Proofs.Ytpnnjefhchppfaa
