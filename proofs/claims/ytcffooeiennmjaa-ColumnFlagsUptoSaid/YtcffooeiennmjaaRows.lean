/-
  No cell of these rows narrows 'for every input' (looked for: loops, veiled, ifaces, maps, wideKeys, modest, calm, conditions, laid).
  DERIVED. THE GIVEN ROWS OF THIS SEAT. 12 by the template 'for every input the law returns true; each argument reads behind the call as it read before'; 0 by the template 'total and deterministic' (their statements: YtcffooeiennmjaaTotals.lean).
  GIVEN WITH THE SEED: the statements are not yours to turn. If you find one false, say at which input.
  Laid BY PROGRAM, IN A SANDBOX (cutbox-rows.mjs): the forced cells as the released guide's own fill.sh prints them over the translation 320b108fc4c2206d… (all of the seat's roots in one cut). By AI agents, Wed Nov 11 2026. No macro, syntax, notation, axiom, sorry.
-/
import Derived.Test.YtcffooeiennmjaaChecked
import GoSem.Claim
import GoSem.ClaimJoined
import GoSem.ClaimMapViews
import Derived.JoinedTies
import Derived.KernelRfl
namespace Go.Proofs.Ytcffooeiennmjaa
/- THE CELL 'sum', in the pinned program and in every row, IS THE sha256 OF THE DUMP (.gsa) THAT YtcffooeiennmjaaProg.lean LOADS. Nothing in Lean hashes anything: it is a label: what it is worth is what the hold of that sum in a sandbox is worth. -/
noncomputable def Try.pinned : Pinned := { name := "ytcffooeiennmjaa", sum := "320b108fc4c2206d8fca2bfc81099324a92c14474360377d41918895e7170069", checked := Try.checked }
namespace Rows
def none {H : Type} : Left H := { results := [], args := [] }

/-- 'stemmalaw02.LebShort': WHATEVER THE INPUT: true; the input reads as it did. -/
def lebShortSpec : ChangeSpec := { name := "lebShort", fn := fun _ => fun
  | [d] => { results := [.lit (.bool true)], args := [d] }
  | _ => none }
def lebShortRow : OpenClaim := { program := "ytcffooeiennmjaa", sum := "320b108fc4c2206d8fca2bfc81099324a92c14474360377d41918895e7170069", func := "stemma/stemmalaw02.LebShort", spec := "lebShort", apart := false }
def LebShortSaid : Prop := lebShortRow.holds Try.pinned (OpenSpec.ofChange lebShortSpec)

/-- ITS FALSE NEIGHBOUR: 'it returns false'. Refute it at one input. -/
def lebShortWrong : ChangeSpec := { name := "lebShort", fn := fun _ => fun
  | [d] => { results := [.lit (.bool false)], args := [d] }
  | _ => none }
def LebShortWrongFalsely : Prop := lebShortRow.holds Try.pinned (OpenSpec.ofChange lebShortWrong)

/-- 'stemmalaw02.LebPuts': WHATEVER THE INPUT: true; the input reads as it did. -/
def lebPutsSpec : ChangeSpec := { name := "lebPuts", fn := fun _ => fun
  | [d1, d2, d3] => { results := [.lit (.bool true)], args := [d1, d2, d3] }
  | _ => none }
def lebPutsRow : OpenClaim := { program := "ytcffooeiennmjaa", sum := "320b108fc4c2206d8fca2bfc81099324a92c14474360377d41918895e7170069", func := "stemma/stemmalaw02.LebPuts", spec := "lebPuts", apart := false }
def LebPutsSaid : Prop := lebPutsRow.holds Try.pinned (OpenSpec.ofChange lebPutsSpec)

/-- ITS FALSE NEIGHBOUR: 'it returns false'. Refute it at one input. -/
def lebPutsWrong : ChangeSpec := { name := "lebPuts", fn := fun _ => fun
  | [d1, d2, d3] => { results := [.lit (.bool false)], args := [d1, d2, d3] }
  | _ => none }
def LebPutsWrongFalsely : Prop := lebPutsRow.holds Try.pinned (OpenSpec.ofChange lebPutsWrong)

/-- 'stemmalaw02.LebBack': WHATEVER THE INPUT: true; the input reads as it did. -/
def lebBackSpec : ChangeSpec := { name := "lebBack", fn := fun _ => fun
  | [d1, d2, d3] => { results := [.lit (.bool true)], args := [d1, d2, d3] }
  | _ => none }
def lebBackRow : OpenClaim := { program := "ytcffooeiennmjaa", sum := "320b108fc4c2206d8fca2bfc81099324a92c14474360377d41918895e7170069", func := "stemma/stemmalaw02.LebBack", spec := "lebBack", apart := false }
def LebBackSaid : Prop := lebBackRow.holds Try.pinned (OpenSpec.ofChange lebBackSpec)

/-- ITS FALSE NEIGHBOUR: 'it returns false'. Refute it at one input. -/
def lebBackWrong : ChangeSpec := { name := "lebBack", fn := fun _ => fun
  | [d1, d2, d3] => { results := [.lit (.bool false)], args := [d1, d2, d3] }
  | _ => none }
def LebBackWrongFalsely : Prop := lebBackRow.holds Try.pinned (OpenSpec.ofChange lebBackWrong)

/-- 'stemmalaw02.LebOnly': WHATEVER THE INPUT: true; the input reads as it did. -/
def lebOnlySpec : ChangeSpec := { name := "lebOnly", fn := fun _ => fun
  | [d] => { results := [.lit (.bool true)], args := [d] }
  | _ => none }
def lebOnlyRow : OpenClaim := { program := "ytcffooeiennmjaa", sum := "320b108fc4c2206d8fca2bfc81099324a92c14474360377d41918895e7170069", func := "stemma/stemmalaw02.LebOnly", spec := "lebOnly", apart := false }
def LebOnlySaid : Prop := lebOnlyRow.holds Try.pinned (OpenSpec.ofChange lebOnlySpec)

/-- ITS FALSE NEIGHBOUR: 'it returns false'. Refute it at one input. -/
def lebOnlyWrong : ChangeSpec := { name := "lebOnly", fn := fun _ => fun
  | [d] => { results := [.lit (.bool false)], args := [d] }
  | _ => none }
def LebOnlyWrongFalsely : Prop := lebOnlyRow.holds Try.pinned (OpenSpec.ofChange lebOnlyWrong)

/-- 'stemmalaw03.ColumnGets': WHATEVER THE INPUT: true; the input reads as it did. -/
def columnGetsSpec : ChangeSpec := { name := "columnGets", fn := fun _ => fun
  | [d1, d2] => { results := [.lit (.bool true)], args := [d1, d2] }
  | _ => none }
def columnGetsRow : OpenClaim := { program := "ytcffooeiennmjaa", sum := "320b108fc4c2206d8fca2bfc81099324a92c14474360377d41918895e7170069", func := "stemma/stemmalaw03.ColumnGets", spec := "columnGets", unfollowed := true, recurses := true, apart := false }
def ColumnGetsSaid : Prop := columnGetsRow.holds Try.pinned (OpenSpec.ofChange columnGetsSpec)

/-- ITS FALSE NEIGHBOUR: 'it returns false'. Refute it at one input. -/
def columnGetsWrong : ChangeSpec := { name := "columnGets", fn := fun _ => fun
  | [d1, d2] => { results := [.lit (.bool false)], args := [d1, d2] }
  | _ => none }
def ColumnGetsWrongFalsely : Prop := columnGetsRow.holds Try.pinned (OpenSpec.ofChange columnGetsWrong)

/-- 'stemmalaw02.LebNobody': WHATEVER THE INPUT: true; the input reads as it did. -/
def lebNobodySpec : ChangeSpec := { name := "lebNobody", fn := fun _ => fun
  | [d] => { results := [.lit (.bool true)], args := [d] }
  | _ => none }
def lebNobodyRow : OpenClaim := { program := "ytcffooeiennmjaa", sum := "320b108fc4c2206d8fca2bfc81099324a92c14474360377d41918895e7170069", func := "stemma/stemmalaw02.LebNobody", spec := "lebNobody", apart := false }
def LebNobodySaid : Prop := lebNobodyRow.holds Try.pinned (OpenSpec.ofChange lebNobodySpec)

/-- ITS FALSE NEIGHBOUR: 'it returns false'. Refute it at one input. -/
def lebNobodyWrong : ChangeSpec := { name := "lebNobody", fn := fun _ => fun
  | [d] => { results := [.lit (.bool false)], args := [d] }
  | _ => none }
def LebNobodyWrongFalsely : Prop := lebNobodyRow.holds Try.pinned (OpenSpec.ofChange lebNobodyWrong)

/-- 'stemmalaw03.ColumnPuts': WHATEVER THE INPUT: true; the input reads as it did. -/
def columnPutsSpec : ChangeSpec := { name := "columnPuts", fn := fun _ => fun
  | [d] => { results := [.lit (.bool true)], args := [d] }
  | _ => none }
def columnPutsRow : OpenClaim := { program := "ytcffooeiennmjaa", sum := "320b108fc4c2206d8fca2bfc81099324a92c14474360377d41918895e7170069", func := "stemma/stemmalaw03.ColumnPuts", spec := "columnPuts", unfollowed := true, recurses := true, apart := false }
def ColumnPutsSaid : Prop := columnPutsRow.holds Try.pinned (OpenSpec.ofChange columnPutsSpec)

/-- ITS FALSE NEIGHBOUR: 'it returns false'. Refute it at one input. -/
def columnPutsWrong : ChangeSpec := { name := "columnPuts", fn := fun _ => fun
  | [d] => { results := [.lit (.bool false)], args := [d] }
  | _ => none }
def ColumnPutsWrongFalsely : Prop := columnPutsRow.holds Try.pinned (OpenSpec.ofChange columnPutsWrong)

/-- 'stemmalaw03.ColumnBack': WHATEVER THE INPUT: true; the input reads as it did. -/
def columnBackSpec : ChangeSpec := { name := "columnBack", fn := fun _ => fun
  | [d1, d2, d3] => { results := [.lit (.bool true)], args := [d1, d2, d3] }
  | _ => none }
def columnBackRow : OpenClaim := { program := "ytcffooeiennmjaa", sum := "320b108fc4c2206d8fca2bfc81099324a92c14474360377d41918895e7170069", func := "stemma/stemmalaw03.ColumnBack", spec := "columnBack", unfollowed := true, recurses := true, apart := false }
def ColumnBackSaid : Prop := columnBackRow.holds Try.pinned (OpenSpec.ofChange columnBackSpec)

/-- ITS FALSE NEIGHBOUR: 'it returns false'. Refute it at one input. -/
def columnBackWrong : ChangeSpec := { name := "columnBack", fn := fun _ => fun
  | [d1, d2, d3] => { results := [.lit (.bool false)], args := [d1, d2, d3] }
  | _ => none }
def ColumnBackWrongFalsely : Prop := columnBackRow.holds Try.pinned (OpenSpec.ofChange columnBackWrong)

/-- 'stemmalaw03.ColumnEven': WHATEVER THE INPUT: true; the input reads as it did. -/
def columnEvenSpec : ChangeSpec := { name := "columnEven", fn := fun _ => fun
  | [d1, d2, d3] => { results := [.lit (.bool true)], args := [d1, d2, d3] }
  | _ => none }
def columnEvenRow : OpenClaim := { program := "ytcffooeiennmjaa", sum := "320b108fc4c2206d8fca2bfc81099324a92c14474360377d41918895e7170069", func := "stemma/stemmalaw03.ColumnEven", spec := "columnEven", unfollowed := true, recurses := true, apart := false }
def ColumnEvenSaid : Prop := columnEvenRow.holds Try.pinned (OpenSpec.ofChange columnEvenSpec)

/-- ITS FALSE NEIGHBOUR: 'it returns false'. Refute it at one input. -/
def columnEvenWrong : ChangeSpec := { name := "columnEven", fn := fun _ => fun
  | [d1, d2, d3] => { results := [.lit (.bool false)], args := [d1, d2, d3] }
  | _ => none }
def ColumnEvenWrongFalsely : Prop := columnEvenRow.holds Try.pinned (OpenSpec.ofChange columnEvenWrong)

/-- 'stemmalaw03.ColumnFlags': WHATEVER THE INPUT: true; the input reads as it did. -/
def columnFlagsSpec : ChangeSpec := { name := "columnFlags", fn := fun _ => fun
  | [d1, d2] => { results := [.lit (.bool true)], args := [d1, d2] }
  | _ => none }
def columnFlagsRow : OpenClaim := { program := "ytcffooeiennmjaa", sum := "320b108fc4c2206d8fca2bfc81099324a92c14474360377d41918895e7170069", func := "stemma/stemmalaw03.ColumnFlags", spec := "columnFlags", unfollowed := true, recurses := true, apart := false }
def ColumnFlagsSaid : Prop := columnFlagsRow.holds Try.pinned (OpenSpec.ofChange columnFlagsSpec)

/-- ITS FALSE NEIGHBOUR: 'it returns false'. Refute it at one input. -/
def columnFlagsWrong : ChangeSpec := { name := "columnFlags", fn := fun _ => fun
  | [d1, d2] => { results := [.lit (.bool false)], args := [d1, d2] }
  | _ => none }
def ColumnFlagsWrongFalsely : Prop := columnFlagsRow.holds Try.pinned (OpenSpec.ofChange columnFlagsWrong)

/-- 'stemmalaw03.ColumnTruths': WHATEVER THE INPUT: true; the input reads as it did. -/
def columnTruthsSpec : ChangeSpec := { name := "columnTruths", fn := fun _ => fun
  | [d1, d2] => { results := [.lit (.bool true)], args := [d1, d2] }
  | _ => none }
def columnTruthsRow : OpenClaim := { program := "ytcffooeiennmjaa", sum := "320b108fc4c2206d8fca2bfc81099324a92c14474360377d41918895e7170069", func := "stemma/stemmalaw03.ColumnTruths", spec := "columnTruths", unfollowed := true, recurses := true, apart := false }
def ColumnTruthsSaid : Prop := columnTruthsRow.holds Try.pinned (OpenSpec.ofChange columnTruthsSpec)

/-- ITS FALSE NEIGHBOUR: 'it returns false'. Refute it at one input. -/
def columnTruthsWrong : ChangeSpec := { name := "columnTruths", fn := fun _ => fun
  | [d1, d2] => { results := [.lit (.bool false)], args := [d1, d2] }
  | _ => none }
def ColumnTruthsWrongFalsely : Prop := columnTruthsRow.holds Try.pinned (OpenSpec.ofChange columnTruthsWrong)

/-- 'stemmalaw03.ColumnOnly': WHATEVER THE INPUT: true; the input reads as it did. -/
def columnOnlySpec : ChangeSpec := { name := "columnOnly", fn := fun _ => fun
  | [d] => { results := [.lit (.bool true)], args := [d] }
  | _ => none }
def columnOnlyRow : OpenClaim := { program := "ytcffooeiennmjaa", sum := "320b108fc4c2206d8fca2bfc81099324a92c14474360377d41918895e7170069", func := "stemma/stemmalaw03.ColumnOnly", spec := "columnOnly", unfollowed := true, recurses := true, apart := false }
def ColumnOnlySaid : Prop := columnOnlyRow.holds Try.pinned (OpenSpec.ofChange columnOnlySpec)

/-- ITS FALSE NEIGHBOUR: 'it returns false'. Refute it at one input. -/
def columnOnlyWrong : ChangeSpec := { name := "columnOnly", fn := fun _ => fun
  | [d] => { results := [.lit (.bool false)], args := [d] }
  | _ => none }
def ColumnOnlyWrongFalsely : Prop := columnOnlyRow.holds Try.pinned (OpenSpec.ofChange columnOnlyWrong)

/- THE SECOND FORM. 'bulk': how many values and letters a reading holds, each counted each time it is reached (what is shared counts as often as it is met; a slice's spare places count too). A statement '..UptoSaid' is the law's where the arguments, and the package variables that the reading takes, are together of bulk at most 1048576: NARROWER than '..Said'. Prove '..Said' where nothing that the law and all that it calls make is longer than what came in: it says more and counts as full. Else prove '..UptoSaid'. A law counts once. -/
mutual
def uptoBulk {H : Type} : DataW H → Nat
  | .lit (.string bytes) => bytes.length + 1
  | .lit _ => 1
  | .nil => 1
  | .ptr d => uptoBulk d + 1
  | .slice elems spare => uptoBulkAll elems + uptoBulkAll spare + 1
  | .agg parts => uptoBulkAll parts + 1
  | .iface _ d => uptoBulk d + 1
  | .map entries => uptoBulkEntries entries + 1
  | .held _ => 1
def uptoBulkAll {H : Type} : List (DataW H) → Nat
  | [] => 0
  | d :: r => uptoBulk d + uptoBulkAll r
def uptoBulkEntries {H : Type} : List (Lit × DataW H) → Nat
  | [] => 0
  | x :: r => uptoBulkEntry x + uptoBulkEntries r
def uptoBulkEntry {H : Type} : Lit × DataW H → Nat
  | (.string bytes, d) => bytes.length + uptoBulk d + 1
  | (_, d) => uptoBulk d + 1
 end
def uptoSmall : (H : Type) → List (DataW H) → Bool := fun _ ds => decide (uptoBulkAll ds ≤ 1048576)
def OpenSpec.upto (s : _root_.Go.ChangeSpec) : _root_.Go.OpenSpec := { _root_.Go.OpenSpec.ofChange s with cond := some uptoSmall }

/-- 'stemmalaw02.LebShort', WHERE WHAT IT READS IS OF BULK AT MOST 1048576: true; the input reads as it did. -/
def lebShortUptoRow : OpenClaim := { program := "ytcffooeiennmjaa", sum := "320b108fc4c2206d8fca2bfc81099324a92c14474360377d41918895e7170069", func := "stemma/stemmalaw02.LebShort", spec := "lebShort", apart := false, narrowed := true }
def LebShortUptoSaid : Prop := lebShortUptoRow.holds Try.pinned (OpenSpec.upto lebShortSpec)

/-- 'stemmalaw02.LebPuts', WHERE WHAT IT READS IS OF BULK AT MOST 1048576: true; the input reads as it did. -/
def lebPutsUptoRow : OpenClaim := { program := "ytcffooeiennmjaa", sum := "320b108fc4c2206d8fca2bfc81099324a92c14474360377d41918895e7170069", func := "stemma/stemmalaw02.LebPuts", spec := "lebPuts", apart := false, narrowed := true }
def LebPutsUptoSaid : Prop := lebPutsUptoRow.holds Try.pinned (OpenSpec.upto lebPutsSpec)

/-- 'stemmalaw02.LebBack', WHERE WHAT IT READS IS OF BULK AT MOST 1048576: true; the input reads as it did. -/
def lebBackUptoRow : OpenClaim := { program := "ytcffooeiennmjaa", sum := "320b108fc4c2206d8fca2bfc81099324a92c14474360377d41918895e7170069", func := "stemma/stemmalaw02.LebBack", spec := "lebBack", apart := false, narrowed := true }
def LebBackUptoSaid : Prop := lebBackUptoRow.holds Try.pinned (OpenSpec.upto lebBackSpec)

/-- 'stemmalaw02.LebOnly', WHERE WHAT IT READS IS OF BULK AT MOST 1048576: true; the input reads as it did. -/
def lebOnlyUptoRow : OpenClaim := { program := "ytcffooeiennmjaa", sum := "320b108fc4c2206d8fca2bfc81099324a92c14474360377d41918895e7170069", func := "stemma/stemmalaw02.LebOnly", spec := "lebOnly", apart := false, narrowed := true }
def LebOnlyUptoSaid : Prop := lebOnlyUptoRow.holds Try.pinned (OpenSpec.upto lebOnlySpec)

/-- 'stemmalaw03.ColumnGets', WHERE WHAT IT READS IS OF BULK AT MOST 1048576: true; the input reads as it did. -/
def columnGetsUptoRow : OpenClaim := { program := "ytcffooeiennmjaa", sum := "320b108fc4c2206d8fca2bfc81099324a92c14474360377d41918895e7170069", func := "stemma/stemmalaw03.ColumnGets", spec := "columnGets", unfollowed := true, recurses := true, apart := false, narrowed := true }
def ColumnGetsUptoSaid : Prop := columnGetsUptoRow.holds Try.pinned (OpenSpec.upto columnGetsSpec)

/-- 'stemmalaw02.LebNobody', WHERE WHAT IT READS IS OF BULK AT MOST 1048576: true; the input reads as it did. -/
def lebNobodyUptoRow : OpenClaim := { program := "ytcffooeiennmjaa", sum := "320b108fc4c2206d8fca2bfc81099324a92c14474360377d41918895e7170069", func := "stemma/stemmalaw02.LebNobody", spec := "lebNobody", apart := false, narrowed := true }
def LebNobodyUptoSaid : Prop := lebNobodyUptoRow.holds Try.pinned (OpenSpec.upto lebNobodySpec)

/-- 'stemmalaw03.ColumnPuts', WHERE WHAT IT READS IS OF BULK AT MOST 1048576: true; the input reads as it did. -/
def columnPutsUptoRow : OpenClaim := { program := "ytcffooeiennmjaa", sum := "320b108fc4c2206d8fca2bfc81099324a92c14474360377d41918895e7170069", func := "stemma/stemmalaw03.ColumnPuts", spec := "columnPuts", unfollowed := true, recurses := true, apart := false, narrowed := true }
def ColumnPutsUptoSaid : Prop := columnPutsUptoRow.holds Try.pinned (OpenSpec.upto columnPutsSpec)

/-- 'stemmalaw03.ColumnBack', WHERE WHAT IT READS IS OF BULK AT MOST 1048576: true; the input reads as it did. -/
def columnBackUptoRow : OpenClaim := { program := "ytcffooeiennmjaa", sum := "320b108fc4c2206d8fca2bfc81099324a92c14474360377d41918895e7170069", func := "stemma/stemmalaw03.ColumnBack", spec := "columnBack", unfollowed := true, recurses := true, apart := false, narrowed := true }
def ColumnBackUptoSaid : Prop := columnBackUptoRow.holds Try.pinned (OpenSpec.upto columnBackSpec)

/-- 'stemmalaw03.ColumnEven', WHERE WHAT IT READS IS OF BULK AT MOST 1048576: true; the input reads as it did. -/
def columnEvenUptoRow : OpenClaim := { program := "ytcffooeiennmjaa", sum := "320b108fc4c2206d8fca2bfc81099324a92c14474360377d41918895e7170069", func := "stemma/stemmalaw03.ColumnEven", spec := "columnEven", unfollowed := true, recurses := true, apart := false, narrowed := true }
def ColumnEvenUptoSaid : Prop := columnEvenUptoRow.holds Try.pinned (OpenSpec.upto columnEvenSpec)

/-- 'stemmalaw03.ColumnFlags', WHERE WHAT IT READS IS OF BULK AT MOST 1048576: true; the input reads as it did. -/
def columnFlagsUptoRow : OpenClaim := { program := "ytcffooeiennmjaa", sum := "320b108fc4c2206d8fca2bfc81099324a92c14474360377d41918895e7170069", func := "stemma/stemmalaw03.ColumnFlags", spec := "columnFlags", unfollowed := true, recurses := true, apart := false, narrowed := true }
def ColumnFlagsUptoSaid : Prop := columnFlagsUptoRow.holds Try.pinned (OpenSpec.upto columnFlagsSpec)

/-- 'stemmalaw03.ColumnTruths', WHERE WHAT IT READS IS OF BULK AT MOST 1048576: true; the input reads as it did. -/
def columnTruthsUptoRow : OpenClaim := { program := "ytcffooeiennmjaa", sum := "320b108fc4c2206d8fca2bfc81099324a92c14474360377d41918895e7170069", func := "stemma/stemmalaw03.ColumnTruths", spec := "columnTruths", unfollowed := true, recurses := true, apart := false, narrowed := true }
def ColumnTruthsUptoSaid : Prop := columnTruthsUptoRow.holds Try.pinned (OpenSpec.upto columnTruthsSpec)

/-- 'stemmalaw03.ColumnOnly', WHERE WHAT IT READS IS OF BULK AT MOST 1048576: true; the input reads as it did. -/
def columnOnlyUptoRow : OpenClaim := { program := "ytcffooeiennmjaa", sum := "320b108fc4c2206d8fca2bfc81099324a92c14474360377d41918895e7170069", func := "stemma/stemmalaw03.ColumnOnly", spec := "columnOnly", unfollowed := true, recurses := true, apart := false, narrowed := true }
def ColumnOnlyUptoSaid : Prop := columnOnlyUptoRow.holds Try.pinned (OpenSpec.upto columnOnlySpec)

end Rows
end Go.Proofs.Ytcffooeiennmjaa
