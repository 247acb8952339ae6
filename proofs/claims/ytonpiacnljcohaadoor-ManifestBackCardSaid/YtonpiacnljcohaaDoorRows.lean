/-
  NARROWER THAN 'FOR EVERY INPUT', by the rows' own cells (each row's printed sentence says how): FrameSeals: laid · FrameOpens: laid · FrameScans: laid · FrameBack: laid · FrameTurned: laid · FrameNoughts: laid · ManifestPuts: laid · ManifestGets: laid · ManifestSames: laid · ManifestBack: laid.
  DERIVED. THE GIVEN ROWS OF THIS SEAT. 10 by the template 'for every input the law returns true; each argument reads behind the call as it read before'; 0 by the template 'total and deterministic' (their statements: YtonpiacnljcohaaDoorTotals.lean).
  GIVEN WITH THE SEED: the statements are not yours to turn. If you find one false, say at which input.
  Laid BY PROGRAM, IN A SANDBOX (cutbox-rows.mjs): the forced cells as the released guide's own fill.sh prints them over the translation 9b475aedd7205d99… (all of the seat's roots in one cut). By AI agents, Wed Nov 11 2026. No macro, syntax, notation, axiom, sorry.
-/
import Derived.Test.YtonpiacnljcohaaDoorChecked
import GoSem.Claim
import GoSem.ClaimJoined
import GoSem.ClaimMapViews
import Derived.JoinedTies
import Derived.KernelRfl
namespace Go.Proofs.YtonpiacnljcohaaDoor
/- THE CELL 'sum', in the pinned program and in every row, IS THE sha256 OF THE DUMP (.gsa) THAT YtonpiacnljcohaaDoorProg.lean LOADS. Nothing in Lean hashes anything: it is a label: what it is worth is what the hold of that sum in a sandbox is worth. -/
noncomputable def Tryd.pinned : Pinned := { name := "ytonpiacnljcohaadoor", sum := "9b475aedd7205d99e7cfa7a4793336a2065bd1b3ed189fe1958402f01e5160eb", checked := Tryd.checked }
namespace Rows
def none {H : Type} : Left H := { results := [], args := [] }

/- WHAT THE LISTED PACKAGE-LEVEL VARIABLES READ AS WHEN THE CALL BEGINS. Each datum BY PROGRAM (the guide's laid-datum.mjs) off the statement by which the dump's own 'gosem.cut.vars' lays the variable. In a bare row this is a premise. The card (YtonpiacnljcohaaDoorCards.lean) ties it to the program's text. -/
def laid_stemma_frame_quarter {H : Type} : DataW H := .agg [.lit (.int .u32 0), .lit (.int .u32 498536548), .lit (.int .u32 997073096), .lit (.int .u32 651767980), .lit (.int .u32 1994146192), .lit (.int .u32 1802195444), .lit (.int .u32 1303535960), .lit (.int .u32 1342533948), .lit (.int .u32 3988292384), .lit (.int .u32 4027552580), .lit (.int .u32 3604390888), .lit (.int .u32 3412177804), .lit (.int .u32 2607071920), .lit (.int .u32 2262029012), .lit (.int .u32 2685067896), .lit (.int .u32 3183342108)]

/-- 'stemmalaw04.FrameSeals': WHATEVER THE INPUT: true; the input reads as it did. -/
def frameSealsSpec : ChangeSpec := { name := "frameSeals", fn := fun _ => fun
  | [d1, d2] => { results := [.lit (.bool true)], args := [d1, d2] }
  | _ => none }
def frameSealsRow : OpenClaim := { program := "ytonpiacnljcohaadoor", sum := "9b475aedd7205d99e7cfa7a4793336a2065bd1b3ed189fe1958402f01e5160eb", func := "stemma/stemmalaw04.FrameSeals", spec := "frameSeals", unfollowed := true, recurses := true, named := ["stemma/frame.quarter"], apart := false, laid := [("stemma/frame.quarter", laid_stemma_frame_quarter)] }
def FrameSealsSaid : Prop := frameSealsRow.holds Tryd.pinned (OpenSpec.ofChange frameSealsSpec)

/-- ITS FALSE NEIGHBOUR: 'it returns false'. Refute it at one input. -/
def frameSealsWrong : ChangeSpec := { name := "frameSeals", fn := fun _ => fun
  | [d1, d2] => { results := [.lit (.bool false)], args := [d1, d2] }
  | _ => none }
def FrameSealsWrongFalsely : Prop := frameSealsRow.holds Tryd.pinned (OpenSpec.ofChange frameSealsWrong)

/-- 'stemmalaw04.FrameOpens': WHATEVER THE INPUT: true; the input reads as it did. -/
def frameOpensSpec : ChangeSpec := { name := "frameOpens", fn := fun _ => fun
  | [d] => { results := [.lit (.bool true)], args := [d] }
  | _ => none }
def frameOpensRow : OpenClaim := { program := "ytonpiacnljcohaadoor", sum := "9b475aedd7205d99e7cfa7a4793336a2065bd1b3ed189fe1958402f01e5160eb", func := "stemma/stemmalaw04.FrameOpens", spec := "frameOpens", unfollowed := true, recurses := true, named := ["stemma/frame.quarter"], apart := false, laid := [("stemma/frame.quarter", laid_stemma_frame_quarter)] }
def FrameOpensSaid : Prop := frameOpensRow.holds Tryd.pinned (OpenSpec.ofChange frameOpensSpec)

/-- ITS FALSE NEIGHBOUR: 'it returns false'. Refute it at one input. -/
def frameOpensWrong : ChangeSpec := { name := "frameOpens", fn := fun _ => fun
  | [d] => { results := [.lit (.bool false)], args := [d] }
  | _ => none }
def FrameOpensWrongFalsely : Prop := frameOpensRow.holds Tryd.pinned (OpenSpec.ofChange frameOpensWrong)

/-- 'stemmalaw04.FrameScans': WHATEVER THE INPUT: true; the input reads as it did. -/
def frameScansSpec : ChangeSpec := { name := "frameScans", fn := fun _ => fun
  | [d] => { results := [.lit (.bool true)], args := [d] }
  | _ => none }
def frameScansRow : OpenClaim := { program := "ytonpiacnljcohaadoor", sum := "9b475aedd7205d99e7cfa7a4793336a2065bd1b3ed189fe1958402f01e5160eb", func := "stemma/stemmalaw04.FrameScans", spec := "frameScans", unfollowed := true, recurses := true, named := ["stemma/frame.quarter"], apart := false, laid := [("stemma/frame.quarter", laid_stemma_frame_quarter)] }
def FrameScansSaid : Prop := frameScansRow.holds Tryd.pinned (OpenSpec.ofChange frameScansSpec)

/-- ITS FALSE NEIGHBOUR: 'it returns false'. Refute it at one input. -/
def frameScansWrong : ChangeSpec := { name := "frameScans", fn := fun _ => fun
  | [d] => { results := [.lit (.bool false)], args := [d] }
  | _ => none }
def FrameScansWrongFalsely : Prop := frameScansRow.holds Tryd.pinned (OpenSpec.ofChange frameScansWrong)

/-- 'stemmalaw04.FrameBack': WHATEVER THE INPUT: true; the input reads as it did. -/
def frameBackSpec : ChangeSpec := { name := "frameBack", fn := fun _ => fun
  | [d1, d2] => { results := [.lit (.bool true)], args := [d1, d2] }
  | _ => none }
def frameBackRow : OpenClaim := { program := "ytonpiacnljcohaadoor", sum := "9b475aedd7205d99e7cfa7a4793336a2065bd1b3ed189fe1958402f01e5160eb", func := "stemma/stemmalaw04.FrameBack", spec := "frameBack", unfollowed := true, recurses := true, named := ["stemma/frame.quarter"], apart := false, laid := [("stemma/frame.quarter", laid_stemma_frame_quarter)] }
def FrameBackSaid : Prop := frameBackRow.holds Tryd.pinned (OpenSpec.ofChange frameBackSpec)

/-- ITS FALSE NEIGHBOUR: 'it returns false'. Refute it at one input. -/
def frameBackWrong : ChangeSpec := { name := "frameBack", fn := fun _ => fun
  | [d1, d2] => { results := [.lit (.bool false)], args := [d1, d2] }
  | _ => none }
def FrameBackWrongFalsely : Prop := frameBackRow.holds Tryd.pinned (OpenSpec.ofChange frameBackWrong)

/-- 'stemmalaw04.FrameTurned': WHATEVER THE INPUT: true; the input reads as it did. -/
def frameTurnedSpec : ChangeSpec := { name := "frameTurned", fn := fun _ => fun
  | [d1, d2, d3] => { results := [.lit (.bool true)], args := [d1, d2, d3] }
  | _ => none }
def frameTurnedRow : OpenClaim := { program := "ytonpiacnljcohaadoor", sum := "9b475aedd7205d99e7cfa7a4793336a2065bd1b3ed189fe1958402f01e5160eb", func := "stemma/stemmalaw04.FrameTurned", spec := "frameTurned", unfollowed := true, recurses := true, named := ["stemma/frame.quarter"], apart := false, laid := [("stemma/frame.quarter", laid_stemma_frame_quarter)] }
def FrameTurnedSaid : Prop := frameTurnedRow.holds Tryd.pinned (OpenSpec.ofChange frameTurnedSpec)

/-- ITS FALSE NEIGHBOUR: 'it returns false'. Refute it at one input. -/
def frameTurnedWrong : ChangeSpec := { name := "frameTurned", fn := fun _ => fun
  | [d1, d2, d3] => { results := [.lit (.bool false)], args := [d1, d2, d3] }
  | _ => none }
def FrameTurnedWrongFalsely : Prop := frameTurnedRow.holds Tryd.pinned (OpenSpec.ofChange frameTurnedWrong)

/-- 'stemmalaw04.FrameNoughts': WHATEVER THE INPUT: true; the input reads as it did. -/
def frameNoughtsSpec : ChangeSpec := { name := "frameNoughts", fn := fun _ => fun
  | [d1, d2] => { results := [.lit (.bool true)], args := [d1, d2] }
  | _ => none }
def frameNoughtsRow : OpenClaim := { program := "ytonpiacnljcohaadoor", sum := "9b475aedd7205d99e7cfa7a4793336a2065bd1b3ed189fe1958402f01e5160eb", func := "stemma/stemmalaw04.FrameNoughts", spec := "frameNoughts", unfollowed := true, recurses := true, named := ["stemma/frame.quarter"], apart := false, laid := [("stemma/frame.quarter", laid_stemma_frame_quarter)] }
def FrameNoughtsSaid : Prop := frameNoughtsRow.holds Tryd.pinned (OpenSpec.ofChange frameNoughtsSpec)

/-- ITS FALSE NEIGHBOUR: 'it returns false'. Refute it at one input. -/
def frameNoughtsWrong : ChangeSpec := { name := "frameNoughts", fn := fun _ => fun
  | [d1, d2] => { results := [.lit (.bool false)], args := [d1, d2] }
  | _ => none }
def FrameNoughtsWrongFalsely : Prop := frameNoughtsRow.holds Tryd.pinned (OpenSpec.ofChange frameNoughtsWrong)

/-- 'stemmalaw19.ManifestPuts': WHATEVER THE INPUT: true; the input reads as it did. -/
def manifestPutsSpec : ChangeSpec := { name := "manifestPuts", fn := fun _ => fun
  | [d1, d2, d3] => { results := [.lit (.bool true)], args := [d1, d2, d3] }
  | _ => none }
def manifestPutsRow : OpenClaim := { program := "ytonpiacnljcohaadoor", sum := "9b475aedd7205d99e7cfa7a4793336a2065bd1b3ed189fe1958402f01e5160eb", func := "stemma/stemmalaw19.ManifestPuts", spec := "manifestPuts", unfollowed := true, recurses := true, named := ["stemma/frame.quarter"], apart := false, laid := [("stemma/frame.quarter", laid_stemma_frame_quarter)] }
def ManifestPutsSaid : Prop := manifestPutsRow.holds Tryd.pinned (OpenSpec.ofChange manifestPutsSpec)

/-- ITS FALSE NEIGHBOUR: 'it returns false'. Refute it at one input. -/
def manifestPutsWrong : ChangeSpec := { name := "manifestPuts", fn := fun _ => fun
  | [d1, d2, d3] => { results := [.lit (.bool false)], args := [d1, d2, d3] }
  | _ => none }
def ManifestPutsWrongFalsely : Prop := manifestPutsRow.holds Tryd.pinned (OpenSpec.ofChange manifestPutsWrong)

/-- 'stemmalaw19.ManifestGets': WHATEVER THE INPUT: true; the input reads as it did. -/
def manifestGetsSpec : ChangeSpec := { name := "manifestGets", fn := fun _ => fun
  | [d] => { results := [.lit (.bool true)], args := [d] }
  | _ => none }
def manifestGetsRow : OpenClaim := { program := "ytonpiacnljcohaadoor", sum := "9b475aedd7205d99e7cfa7a4793336a2065bd1b3ed189fe1958402f01e5160eb", func := "stemma/stemmalaw19.ManifestGets", spec := "manifestGets", unfollowed := true, recurses := true, named := ["stemma/frame.quarter"], apart := false, laid := [("stemma/frame.quarter", laid_stemma_frame_quarter)] }
def ManifestGetsSaid : Prop := manifestGetsRow.holds Tryd.pinned (OpenSpec.ofChange manifestGetsSpec)

/-- ITS FALSE NEIGHBOUR: 'it returns false'. Refute it at one input. -/
def manifestGetsWrong : ChangeSpec := { name := "manifestGets", fn := fun _ => fun
  | [d] => { results := [.lit (.bool false)], args := [d] }
  | _ => none }
def ManifestGetsWrongFalsely : Prop := manifestGetsRow.holds Tryd.pinned (OpenSpec.ofChange manifestGetsWrong)

/-- 'stemmalaw19.ManifestSames': WHATEVER THE INPUT: true; the input reads as it did. -/
def manifestSamesSpec : ChangeSpec := { name := "manifestSames", fn := fun _ => fun
  | [d1, d2, d3] => { results := [.lit (.bool true)], args := [d1, d2, d3] }
  | _ => none }
def manifestSamesRow : OpenClaim := { program := "ytonpiacnljcohaadoor", sum := "9b475aedd7205d99e7cfa7a4793336a2065bd1b3ed189fe1958402f01e5160eb", func := "stemma/stemmalaw19.ManifestSames", spec := "manifestSames", unfollowed := true, recurses := true, named := ["stemma/frame.quarter"], apart := false, laid := [("stemma/frame.quarter", laid_stemma_frame_quarter)] }
def ManifestSamesSaid : Prop := manifestSamesRow.holds Tryd.pinned (OpenSpec.ofChange manifestSamesSpec)

/-- ITS FALSE NEIGHBOUR: 'it returns false'. Refute it at one input. -/
def manifestSamesWrong : ChangeSpec := { name := "manifestSames", fn := fun _ => fun
  | [d1, d2, d3] => { results := [.lit (.bool false)], args := [d1, d2, d3] }
  | _ => none }
def ManifestSamesWrongFalsely : Prop := manifestSamesRow.holds Tryd.pinned (OpenSpec.ofChange manifestSamesWrong)

/-- 'stemmalaw19.ManifestBack': WHATEVER THE INPUT: true; the input reads as it did. -/
def manifestBackSpec : ChangeSpec := { name := "manifestBack", fn := fun _ => fun
  | [d1, d2, d3] => { results := [.lit (.bool true)], args := [d1, d2, d3] }
  | _ => none }
def manifestBackRow : OpenClaim := { program := "ytonpiacnljcohaadoor", sum := "9b475aedd7205d99e7cfa7a4793336a2065bd1b3ed189fe1958402f01e5160eb", func := "stemma/stemmalaw19.ManifestBack", spec := "manifestBack", unfollowed := true, recurses := true, named := ["stemma/frame.quarter"], apart := false, laid := [("stemma/frame.quarter", laid_stemma_frame_quarter)] }
def ManifestBackSaid : Prop := manifestBackRow.holds Tryd.pinned (OpenSpec.ofChange manifestBackSpec)

/-- ITS FALSE NEIGHBOUR: 'it returns false'. Refute it at one input. -/
def manifestBackWrong : ChangeSpec := { name := "manifestBack", fn := fun _ => fun
  | [d1, d2, d3] => { results := [.lit (.bool false)], args := [d1, d2, d3] }
  | _ => none }
def ManifestBackWrongFalsely : Prop := manifestBackRow.holds Tryd.pinned (OpenSpec.ofChange manifestBackWrong)

/- THE SECOND FORM. 'bulk': how many values and letters a reading holds, each counted each time it is reached (what is shared counts as often as it is met; a slice's spare places count too). A statement '..UptoSaid' is the law's where the arguments, and the package variables that the reading takes, are together of bulk at most 1048576: NARROWER than '..Said'. Prove '..Said' where nothing that the law and all that it calls make is longer than what came in: it says more and counts as full. Else prove '..UptoSaid'. A law counts once. -/
mutual
def uptoBulk {H : Type} : DataW H → Nat
  | .lit (.string bytes) => bytes.length + 1
  | .lit _ => 1
  | .nil => 1
  | .ptr d => uptoBulk d + 1
  | .slice elems spare => uptoBulkAll elems + uptoBulkAll spare + 1
  | .agg parts => uptoBulkAll parts + 1
  | .iface _ d => uptoBulk d + 1
  | .map entries => uptoBulkEntries entries + 1
  | .held _ => 1
def uptoBulkAll {H : Type} : List (DataW H) → Nat
  | [] => 0
  | d :: r => uptoBulk d + uptoBulkAll r
def uptoBulkEntries {H : Type} : List (Lit × DataW H) → Nat
  | [] => 0
  | x :: r => uptoBulkEntry x + uptoBulkEntries r
def uptoBulkEntry {H : Type} : Lit × DataW H → Nat
  | (.string bytes, d) => bytes.length + uptoBulk d + 1
  | (_, d) => uptoBulk d + 1
 end
def uptoSmall : (H : Type) → List (DataW H) → Bool := fun _ ds => decide (uptoBulkAll ds ≤ 1048576)
def OpenSpec.upto (s : _root_.Go.ChangeSpec) : _root_.Go.OpenSpec := { _root_.Go.OpenSpec.ofChange s with cond := some uptoSmall }

/-- 'stemmalaw04.FrameSeals', WHERE WHAT IT READS IS OF BULK AT MOST 1048576: true; the input reads as it did. -/
def frameSealsUptoRow : OpenClaim := { program := "ytonpiacnljcohaadoor", sum := "9b475aedd7205d99e7cfa7a4793336a2065bd1b3ed189fe1958402f01e5160eb", func := "stemma/stemmalaw04.FrameSeals", spec := "frameSeals", unfollowed := true, recurses := true, named := ["stemma/frame.quarter"], apart := false, laid := [("stemma/frame.quarter", laid_stemma_frame_quarter)], narrowed := true }
def FrameSealsUptoSaid : Prop := frameSealsUptoRow.holds Tryd.pinned (OpenSpec.upto frameSealsSpec)

/-- 'stemmalaw04.FrameOpens', WHERE WHAT IT READS IS OF BULK AT MOST 1048576: true; the input reads as it did. -/
def frameOpensUptoRow : OpenClaim := { program := "ytonpiacnljcohaadoor", sum := "9b475aedd7205d99e7cfa7a4793336a2065bd1b3ed189fe1958402f01e5160eb", func := "stemma/stemmalaw04.FrameOpens", spec := "frameOpens", unfollowed := true, recurses := true, named := ["stemma/frame.quarter"], apart := false, laid := [("stemma/frame.quarter", laid_stemma_frame_quarter)], narrowed := true }
def FrameOpensUptoSaid : Prop := frameOpensUptoRow.holds Tryd.pinned (OpenSpec.upto frameOpensSpec)

/-- 'stemmalaw04.FrameScans', WHERE WHAT IT READS IS OF BULK AT MOST 1048576: true; the input reads as it did. -/
def frameScansUptoRow : OpenClaim := { program := "ytonpiacnljcohaadoor", sum := "9b475aedd7205d99e7cfa7a4793336a2065bd1b3ed189fe1958402f01e5160eb", func := "stemma/stemmalaw04.FrameScans", spec := "frameScans", unfollowed := true, recurses := true, named := ["stemma/frame.quarter"], apart := false, laid := [("stemma/frame.quarter", laid_stemma_frame_quarter)], narrowed := true }
def FrameScansUptoSaid : Prop := frameScansUptoRow.holds Tryd.pinned (OpenSpec.upto frameScansSpec)

/-- 'stemmalaw04.FrameBack', WHERE WHAT IT READS IS OF BULK AT MOST 1048576: true; the input reads as it did. -/
def frameBackUptoRow : OpenClaim := { program := "ytonpiacnljcohaadoor", sum := "9b475aedd7205d99e7cfa7a4793336a2065bd1b3ed189fe1958402f01e5160eb", func := "stemma/stemmalaw04.FrameBack", spec := "frameBack", unfollowed := true, recurses := true, named := ["stemma/frame.quarter"], apart := false, laid := [("stemma/frame.quarter", laid_stemma_frame_quarter)], narrowed := true }
def FrameBackUptoSaid : Prop := frameBackUptoRow.holds Tryd.pinned (OpenSpec.upto frameBackSpec)

/-- 'stemmalaw04.FrameTurned', WHERE WHAT IT READS IS OF BULK AT MOST 1048576: true; the input reads as it did. -/
def frameTurnedUptoRow : OpenClaim := { program := "ytonpiacnljcohaadoor", sum := "9b475aedd7205d99e7cfa7a4793336a2065bd1b3ed189fe1958402f01e5160eb", func := "stemma/stemmalaw04.FrameTurned", spec := "frameTurned", unfollowed := true, recurses := true, named := ["stemma/frame.quarter"], apart := false, laid := [("stemma/frame.quarter", laid_stemma_frame_quarter)], narrowed := true }
def FrameTurnedUptoSaid : Prop := frameTurnedUptoRow.holds Tryd.pinned (OpenSpec.upto frameTurnedSpec)

/-- 'stemmalaw04.FrameNoughts', WHERE WHAT IT READS IS OF BULK AT MOST 1048576: true; the input reads as it did. -/
def frameNoughtsUptoRow : OpenClaim := { program := "ytonpiacnljcohaadoor", sum := "9b475aedd7205d99e7cfa7a4793336a2065bd1b3ed189fe1958402f01e5160eb", func := "stemma/stemmalaw04.FrameNoughts", spec := "frameNoughts", unfollowed := true, recurses := true, named := ["stemma/frame.quarter"], apart := false, laid := [("stemma/frame.quarter", laid_stemma_frame_quarter)], narrowed := true }
def FrameNoughtsUptoSaid : Prop := frameNoughtsUptoRow.holds Tryd.pinned (OpenSpec.upto frameNoughtsSpec)

/-- 'stemmalaw19.ManifestPuts', WHERE WHAT IT READS IS OF BULK AT MOST 1048576: true; the input reads as it did. -/
def manifestPutsUptoRow : OpenClaim := { program := "ytonpiacnljcohaadoor", sum := "9b475aedd7205d99e7cfa7a4793336a2065bd1b3ed189fe1958402f01e5160eb", func := "stemma/stemmalaw19.ManifestPuts", spec := "manifestPuts", unfollowed := true, recurses := true, named := ["stemma/frame.quarter"], apart := false, laid := [("stemma/frame.quarter", laid_stemma_frame_quarter)], narrowed := true }
def ManifestPutsUptoSaid : Prop := manifestPutsUptoRow.holds Tryd.pinned (OpenSpec.upto manifestPutsSpec)

/-- 'stemmalaw19.ManifestGets', WHERE WHAT IT READS IS OF BULK AT MOST 1048576: true; the input reads as it did. -/
def manifestGetsUptoRow : OpenClaim := { program := "ytonpiacnljcohaadoor", sum := "9b475aedd7205d99e7cfa7a4793336a2065bd1b3ed189fe1958402f01e5160eb", func := "stemma/stemmalaw19.ManifestGets", spec := "manifestGets", unfollowed := true, recurses := true, named := ["stemma/frame.quarter"], apart := false, laid := [("stemma/frame.quarter", laid_stemma_frame_quarter)], narrowed := true }
def ManifestGetsUptoSaid : Prop := manifestGetsUptoRow.holds Tryd.pinned (OpenSpec.upto manifestGetsSpec)

/-- 'stemmalaw19.ManifestSames', WHERE WHAT IT READS IS OF BULK AT MOST 1048576: true; the input reads as it did. -/
def manifestSamesUptoRow : OpenClaim := { program := "ytonpiacnljcohaadoor", sum := "9b475aedd7205d99e7cfa7a4793336a2065bd1b3ed189fe1958402f01e5160eb", func := "stemma/stemmalaw19.ManifestSames", spec := "manifestSames", unfollowed := true, recurses := true, named := ["stemma/frame.quarter"], apart := false, laid := [("stemma/frame.quarter", laid_stemma_frame_quarter)], narrowed := true }
def ManifestSamesUptoSaid : Prop := manifestSamesUptoRow.holds Tryd.pinned (OpenSpec.upto manifestSamesSpec)

/-- 'stemmalaw19.ManifestBack', WHERE WHAT IT READS IS OF BULK AT MOST 1048576: true; the input reads as it did. -/
def manifestBackUptoRow : OpenClaim := { program := "ytonpiacnljcohaadoor", sum := "9b475aedd7205d99e7cfa7a4793336a2065bd1b3ed189fe1958402f01e5160eb", func := "stemma/stemmalaw19.ManifestBack", spec := "manifestBack", unfollowed := true, recurses := true, named := ["stemma/frame.quarter"], apart := false, laid := [("stemma/frame.quarter", laid_stemma_frame_quarter)], narrowed := true }
def ManifestBackUptoSaid : Prop := manifestBackUptoRow.holds Tryd.pinned (OpenSpec.upto manifestBackSpec)

end Rows
end Go.Proofs.YtonpiacnljcohaaDoor
