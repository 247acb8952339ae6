/-
  No cell of these rows narrows 'for every input' (looked for: loops, veiled, ifaces, maps, wideKeys, modest, calm, conditions, laid).
  DERIVED. THE GIVEN ROWS OF THIS SEAT. 8 by the template 'for every input the law returns true; each argument reads behind the call as it read before'; 0 by the template 'total and deterministic' (their statements: YtkcdlilglgfkaaaTotals.lean).
  GIVEN WITH THE SEED: the statements are not yours to turn. If you find one false, say at which input.
  Laid BY PROGRAM, IN A SANDBOX (cutbox-rows.mjs): the forced cells as the released guide's own fill.sh prints them over the translation 7a4887b9d92511df… (all of the seat's roots in one cut). By AI agents, Wed Nov 11 2026. No macro, syntax, notation, axiom, sorry.
-/
import Derived.Test.YtkcdlilglgfkaaaChecked
import GoSem.Claim
import GoSem.ClaimJoined
import GoSem.ClaimMapViews
import Derived.JoinedTies
import Derived.KernelRfl
namespace Go.Proofs.Ytkcdlilglgfkaaa
/- THE CELL 'sum', in the pinned program and in every row, IS THE sha256 OF THE DUMP (.gsa) THAT YtkcdlilglgfkaaaProg.lean LOADS. Nothing in Lean hashes anything: it is a label: what it is worth is what the hold of that sum in a sandbox is worth. -/
noncomputable def Try.pinned : Pinned := { name := "ytkcdlilglgfkaaa", sum := "7a4887b9d92511df217d609b46e9a8d7446a6ca88a7ba4160ed660e5dc07bb38", checked := Try.checked }
namespace Rows
def none {H : Type} : Left H := { results := [], args := [] }

/-- 'stemmalaw11.RgaLess': WHATEVER THE INPUT: true; the input reads as it did. -/
def rgaLessSpec : ChangeSpec := { name := "rgaLess", fn := fun _ => fun
  | [d1, d2, d3] => { results := [.lit (.bool true)], args := [d1, d2, d3] }
  | _ => none }
def rgaLessRow : OpenClaim := { program := "ytkcdlilglgfkaaa", sum := "7a4887b9d92511df217d609b46e9a8d7446a6ca88a7ba4160ed660e5dc07bb38", func := "stemma/stemmalaw11.RgaLess", spec := "rgaLess", inPlace := ["slices.overlaps[stemma/rga.Cell]"], unfollowed := true, recurses := true, plainKeys := false, apart := false }
def RgaLessSaid : Prop := rgaLessRow.holds Try.pinned (OpenSpec.ofChange rgaLessSpec)

/-- ITS FALSE NEIGHBOUR: 'it returns false'. Refute it at one input. -/
def rgaLessWrong : ChangeSpec := { name := "rgaLess", fn := fun _ => fun
  | [d1, d2, d3] => { results := [.lit (.bool false)], args := [d1, d2, d3] }
  | _ => none }
def RgaLessWrongFalsely : Prop := rgaLessRow.holds Try.pinned (OpenSpec.ofChange rgaLessWrong)

/-- 'stemmalaw11.RgaAny': WHATEVER THE INPUT: true; the input reads as it did. -/
def rgaAnySpec : ChangeSpec := { name := "rgaAny", fn := fun _ => fun
  | [d1, d2] => { results := [.lit (.bool true)], args := [d1, d2] }
  | _ => none }
def rgaAnyRow : OpenClaim := { program := "ytkcdlilglgfkaaa", sum := "7a4887b9d92511df217d609b46e9a8d7446a6ca88a7ba4160ed660e5dc07bb38", func := "stemma/stemmalaw11.RgaAny", spec := "rgaAny", inPlace := ["slices.overlaps[stemma/rga.Cell]"], unfollowed := true, recurses := true, plainKeys := false, apart := false }
def RgaAnySaid : Prop := rgaAnyRow.holds Try.pinned (OpenSpec.ofChange rgaAnySpec)

/-- ITS FALSE NEIGHBOUR: 'it returns false'. Refute it at one input. -/
def rgaAnyWrong : ChangeSpec := { name := "rgaAny", fn := fun _ => fun
  | [d1, d2] => { results := [.lit (.bool false)], args := [d1, d2] }
  | _ => none }
def RgaAnyWrongFalsely : Prop := rgaAnyRow.holds Try.pinned (OpenSpec.ofChange rgaAnyWrong)

/-- 'stemmalaw11.RgaKeeps': WHATEVER THE INPUT: true; the input reads as it did. -/
def rgaKeepsSpec : ChangeSpec := { name := "rgaKeeps", fn := fun _ => fun
  | [d1, d2] => { results := [.lit (.bool true)], args := [d1, d2] }
  | _ => none }
def rgaKeepsRow : OpenClaim := { program := "ytkcdlilglgfkaaa", sum := "7a4887b9d92511df217d609b46e9a8d7446a6ca88a7ba4160ed660e5dc07bb38", func := "stemma/stemmalaw11.RgaKeeps", spec := "rgaKeeps", inPlace := ["slices.overlaps[stemma/rga.Cell]"], unfollowed := true, recurses := true, plainKeys := false, apart := false }
def RgaKeepsSaid : Prop := rgaKeepsRow.holds Try.pinned (OpenSpec.ofChange rgaKeepsSpec)

/-- ITS FALSE NEIGHBOUR: 'it returns false'. Refute it at one input. -/
def rgaKeepsWrong : ChangeSpec := { name := "rgaKeeps", fn := fun _ => fun
  | [d1, d2] => { results := [.lit (.bool false)], args := [d1, d2] }
  | _ => none }
def RgaKeepsWrongFalsely : Prop := rgaKeepsRow.holds Try.pinned (OpenSpec.ofChange rgaKeepsWrong)

/-- 'stemmalaw11.RgaPlaces': WHATEVER THE INPUT: true; the input reads as it did. -/
def rgaPlacesSpec : ChangeSpec := { name := "rgaPlaces", fn := fun _ => fun
  | [d] => { results := [.lit (.bool true)], args := [d] }
  | _ => none }
def rgaPlacesRow : OpenClaim := { program := "ytkcdlilglgfkaaa", sum := "7a4887b9d92511df217d609b46e9a8d7446a6ca88a7ba4160ed660e5dc07bb38", func := "stemma/stemmalaw11.RgaPlaces", spec := "rgaPlaces", inPlace := ["slices.overlaps[stemma/rga.Cell]"], unfollowed := true, recurses := true, plainKeys := false, apart := false }
def RgaPlacesSaid : Prop := rgaPlacesRow.holds Try.pinned (OpenSpec.ofChange rgaPlacesSpec)

/-- ITS FALSE NEIGHBOUR: 'it returns false'. Refute it at one input. -/
def rgaPlacesWrong : ChangeSpec := { name := "rgaPlaces", fn := fun _ => fun
  | [d] => { results := [.lit (.bool false)], args := [d] }
  | _ => none }
def RgaPlacesWrongFalsely : Prop := rgaPlacesRow.holds Try.pinned (OpenSpec.ofChange rgaPlacesWrong)

/-- 'stemmalaw11.RgaTypes': WHATEVER THE INPUT: true; the input reads as it did. -/
def rgaTypesSpec : ChangeSpec := { name := "rgaTypes", fn := fun _ => fun
  | [d1, d2, d3] => { results := [.lit (.bool true)], args := [d1, d2, d3] }
  | _ => none }
def rgaTypesRow : OpenClaim := { program := "ytkcdlilglgfkaaa", sum := "7a4887b9d92511df217d609b46e9a8d7446a6ca88a7ba4160ed660e5dc07bb38", func := "stemma/stemmalaw11.RgaTypes", spec := "rgaTypes", inPlace := ["slices.overlaps[stemma/rga.Cell]"], unfollowed := true, recurses := true, plainKeys := false, apart := false }
def RgaTypesSaid : Prop := rgaTypesRow.holds Try.pinned (OpenSpec.ofChange rgaTypesSpec)

/-- ITS FALSE NEIGHBOUR: 'it returns false'. Refute it at one input. -/
def rgaTypesWrong : ChangeSpec := { name := "rgaTypes", fn := fun _ => fun
  | [d1, d2, d3] => { results := [.lit (.bool false)], args := [d1, d2, d3] }
  | _ => none }
def RgaTypesWrongFalsely : Prop := rgaTypesRow.holds Try.pinned (OpenSpec.ofChange rgaTypesWrong)

/-- 'stemmalaw11.RgaPlays': WHATEVER THE INPUT: true; the input reads as it did. -/
def rgaPlaysSpec : ChangeSpec := { name := "rgaPlays", fn := fun _ => fun
  | [d1, d2] => { results := [.lit (.bool true)], args := [d1, d2] }
  | _ => none }
def rgaPlaysRow : OpenClaim := { program := "ytkcdlilglgfkaaa", sum := "7a4887b9d92511df217d609b46e9a8d7446a6ca88a7ba4160ed660e5dc07bb38", func := "stemma/stemmalaw11.RgaPlays", spec := "rgaPlays", inPlace := ["slices.overlaps[stemma/rga.Cell]"], unfollowed := true, recurses := true, plainKeys := false, apart := false }
def RgaPlaysSaid : Prop := rgaPlaysRow.holds Try.pinned (OpenSpec.ofChange rgaPlaysSpec)

/-- ITS FALSE NEIGHBOUR: 'it returns false'. Refute it at one input. -/
def rgaPlaysWrong : ChangeSpec := { name := "rgaPlays", fn := fun _ => fun
  | [d1, d2] => { results := [.lit (.bool false)], args := [d1, d2] }
  | _ => none }
def RgaPlaysWrongFalsely : Prop := rgaPlaysRow.holds Try.pinned (OpenSpec.ofChange rgaPlaysWrong)

/-- 'stemmalaw11.RgaForks': WHATEVER THE INPUT: true; the input reads as it did. -/
def rgaForksSpec : ChangeSpec := { name := "rgaForks", fn := fun _ => fun
  | [d1, d2] => { results := [.lit (.bool true)], args := [d1, d2] }
  | _ => none }
def rgaForksRow : OpenClaim := { program := "ytkcdlilglgfkaaa", sum := "7a4887b9d92511df217d609b46e9a8d7446a6ca88a7ba4160ed660e5dc07bb38", func := "stemma/stemmalaw11.RgaForks", spec := "rgaForks", inPlace := ["slices.overlaps[stemma/rga.Cell]", "maps.clone"], unfollowed := true, recurses := true, plainKeys := false, apart := false }
def RgaForksSaid : Prop := rgaForksRow.holds Try.pinned (OpenSpec.ofChange rgaForksSpec)

/-- ITS FALSE NEIGHBOUR: 'it returns false'. Refute it at one input. -/
def rgaForksWrong : ChangeSpec := { name := "rgaForks", fn := fun _ => fun
  | [d1, d2] => { results := [.lit (.bool false)], args := [d1, d2] }
  | _ => none }
def RgaForksWrongFalsely : Prop := rgaForksRow.holds Try.pinned (OpenSpec.ofChange rgaForksWrong)

/-- 'stemmalaw11.RgaNobody': WHATEVER THE INPUT: true; the input reads as it did. -/
def rgaNobodySpec : ChangeSpec := { name := "rgaNobody", fn := fun _ => fun
  | [d1, d2] => { results := [.lit (.bool true)], args := [d1, d2] }
  | _ => none }
def rgaNobodyRow : OpenClaim := { program := "ytkcdlilglgfkaaa", sum := "7a4887b9d92511df217d609b46e9a8d7446a6ca88a7ba4160ed660e5dc07bb38", func := "stemma/stemmalaw11.RgaNobody", spec := "rgaNobody", inPlace := ["slices.overlaps[stemma/rga.Cell]", "maps.clone"], unfollowed := true, recurses := true, plainKeys := false, apart := false }
def RgaNobodySaid : Prop := rgaNobodyRow.holds Try.pinned (OpenSpec.ofChange rgaNobodySpec)

/-- ITS FALSE NEIGHBOUR: 'it returns false'. Refute it at one input. -/
def rgaNobodyWrong : ChangeSpec := { name := "rgaNobody", fn := fun _ => fun
  | [d1, d2] => { results := [.lit (.bool false)], args := [d1, d2] }
  | _ => none }
def RgaNobodyWrongFalsely : Prop := rgaNobodyRow.holds Try.pinned (OpenSpec.ofChange rgaNobodyWrong)

/- THE SECOND FORM. 'bulk': how many values and letters a reading holds, each counted each time it is reached (what is shared counts as often as it is met; a slice's spare places count too). A statement '..UptoSaid' is the law's where the arguments, and the package variables that the reading takes, are together of bulk at most 1048576: NARROWER than '..Said'. Prove '..Said' where nothing that the law and all that it calls make is longer than what came in: it says more and counts as full. Else prove '..UptoSaid'. A law counts once. -/
mutual
def uptoBulk {H : Type} : DataW H → Nat
  | .lit (.string bytes) => bytes.length + 1
  | .lit _ => 1
  | .nil => 1
  | .ptr d => uptoBulk d + 1
  | .slice elems spare => uptoBulkAll elems + uptoBulkAll spare + 1
  | .agg parts => uptoBulkAll parts + 1
  | .iface _ d => uptoBulk d + 1
  | .map entries => uptoBulkEntries entries + 1
  | .held _ => 1
def uptoBulkAll {H : Type} : List (DataW H) → Nat
  | [] => 0
  | d :: r => uptoBulk d + uptoBulkAll r
def uptoBulkEntries {H : Type} : List (Lit × DataW H) → Nat
  | [] => 0
  | x :: r => uptoBulkEntry x + uptoBulkEntries r
def uptoBulkEntry {H : Type} : Lit × DataW H → Nat
  | (.string bytes, d) => bytes.length + uptoBulk d + 1
  | (_, d) => uptoBulk d + 1
 end
def uptoSmall : (H : Type) → List (DataW H) → Bool := fun _ ds => decide (uptoBulkAll ds ≤ 1048576)
def OpenSpec.upto (s : _root_.Go.ChangeSpec) : _root_.Go.OpenSpec := { _root_.Go.OpenSpec.ofChange s with cond := some uptoSmall }

/-- 'stemmalaw11.RgaLess', WHERE WHAT IT READS IS OF BULK AT MOST 1048576: true; the input reads as it did. -/
def rgaLessUptoRow : OpenClaim := { program := "ytkcdlilglgfkaaa", sum := "7a4887b9d92511df217d609b46e9a8d7446a6ca88a7ba4160ed660e5dc07bb38", func := "stemma/stemmalaw11.RgaLess", spec := "rgaLess", inPlace := ["slices.overlaps[stemma/rga.Cell]"], unfollowed := true, recurses := true, plainKeys := false, apart := false, narrowed := true }
def RgaLessUptoSaid : Prop := rgaLessUptoRow.holds Try.pinned (OpenSpec.upto rgaLessSpec)

/-- 'stemmalaw11.RgaAny', WHERE WHAT IT READS IS OF BULK AT MOST 1048576: true; the input reads as it did. -/
def rgaAnyUptoRow : OpenClaim := { program := "ytkcdlilglgfkaaa", sum := "7a4887b9d92511df217d609b46e9a8d7446a6ca88a7ba4160ed660e5dc07bb38", func := "stemma/stemmalaw11.RgaAny", spec := "rgaAny", inPlace := ["slices.overlaps[stemma/rga.Cell]"], unfollowed := true, recurses := true, plainKeys := false, apart := false, narrowed := true }
def RgaAnyUptoSaid : Prop := rgaAnyUptoRow.holds Try.pinned (OpenSpec.upto rgaAnySpec)

/-- 'stemmalaw11.RgaKeeps', WHERE WHAT IT READS IS OF BULK AT MOST 1048576: true; the input reads as it did. -/
def rgaKeepsUptoRow : OpenClaim := { program := "ytkcdlilglgfkaaa", sum := "7a4887b9d92511df217d609b46e9a8d7446a6ca88a7ba4160ed660e5dc07bb38", func := "stemma/stemmalaw11.RgaKeeps", spec := "rgaKeeps", inPlace := ["slices.overlaps[stemma/rga.Cell]"], unfollowed := true, recurses := true, plainKeys := false, apart := false, narrowed := true }
def RgaKeepsUptoSaid : Prop := rgaKeepsUptoRow.holds Try.pinned (OpenSpec.upto rgaKeepsSpec)

/-- 'stemmalaw11.RgaPlaces', WHERE WHAT IT READS IS OF BULK AT MOST 1048576: true; the input reads as it did. -/
def rgaPlacesUptoRow : OpenClaim := { program := "ytkcdlilglgfkaaa", sum := "7a4887b9d92511df217d609b46e9a8d7446a6ca88a7ba4160ed660e5dc07bb38", func := "stemma/stemmalaw11.RgaPlaces", spec := "rgaPlaces", inPlace := ["slices.overlaps[stemma/rga.Cell]"], unfollowed := true, recurses := true, plainKeys := false, apart := false, narrowed := true }
def RgaPlacesUptoSaid : Prop := rgaPlacesUptoRow.holds Try.pinned (OpenSpec.upto rgaPlacesSpec)

/-- 'stemmalaw11.RgaTypes', WHERE WHAT IT READS IS OF BULK AT MOST 1048576: true; the input reads as it did. -/
def rgaTypesUptoRow : OpenClaim := { program := "ytkcdlilglgfkaaa", sum := "7a4887b9d92511df217d609b46e9a8d7446a6ca88a7ba4160ed660e5dc07bb38", func := "stemma/stemmalaw11.RgaTypes", spec := "rgaTypes", inPlace := ["slices.overlaps[stemma/rga.Cell]"], unfollowed := true, recurses := true, plainKeys := false, apart := false, narrowed := true }
def RgaTypesUptoSaid : Prop := rgaTypesUptoRow.holds Try.pinned (OpenSpec.upto rgaTypesSpec)

/-- 'stemmalaw11.RgaPlays', WHERE WHAT IT READS IS OF BULK AT MOST 1048576: true; the input reads as it did. -/
def rgaPlaysUptoRow : OpenClaim := { program := "ytkcdlilglgfkaaa", sum := "7a4887b9d92511df217d609b46e9a8d7446a6ca88a7ba4160ed660e5dc07bb38", func := "stemma/stemmalaw11.RgaPlays", spec := "rgaPlays", inPlace := ["slices.overlaps[stemma/rga.Cell]"], unfollowed := true, recurses := true, plainKeys := false, apart := false, narrowed := true }
def RgaPlaysUptoSaid : Prop := rgaPlaysUptoRow.holds Try.pinned (OpenSpec.upto rgaPlaysSpec)

/-- 'stemmalaw11.RgaForks', WHERE WHAT IT READS IS OF BULK AT MOST 1048576: true; the input reads as it did. -/
def rgaForksUptoRow : OpenClaim := { program := "ytkcdlilglgfkaaa", sum := "7a4887b9d92511df217d609b46e9a8d7446a6ca88a7ba4160ed660e5dc07bb38", func := "stemma/stemmalaw11.RgaForks", spec := "rgaForks", inPlace := ["slices.overlaps[stemma/rga.Cell]", "maps.clone"], unfollowed := true, recurses := true, plainKeys := false, apart := false, narrowed := true }
def RgaForksUptoSaid : Prop := rgaForksUptoRow.holds Try.pinned (OpenSpec.upto rgaForksSpec)

/-- 'stemmalaw11.RgaNobody', WHERE WHAT IT READS IS OF BULK AT MOST 1048576: true; the input reads as it did. -/
def rgaNobodyUptoRow : OpenClaim := { program := "ytkcdlilglgfkaaa", sum := "7a4887b9d92511df217d609b46e9a8d7446a6ca88a7ba4160ed660e5dc07bb38", func := "stemma/stemmalaw11.RgaNobody", spec := "rgaNobody", inPlace := ["slices.overlaps[stemma/rga.Cell]", "maps.clone"], unfollowed := true, recurses := true, plainKeys := false, apart := false, narrowed := true }
def RgaNobodyUptoSaid : Prop := rgaNobodyUptoRow.holds Try.pinned (OpenSpec.upto rgaNobodySpec)

end Rows
end Go.Proofs.Ytkcdlilglgfkaaa
