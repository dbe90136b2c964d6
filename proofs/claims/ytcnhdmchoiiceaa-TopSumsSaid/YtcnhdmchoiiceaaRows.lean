/-
  No cell of these rows narrows 'for every input' (looked for: loops, veiled, ifaces, maps, wideKeys, modest, calm, conditions, laid).
  DERIVED. THE GIVEN ROWS OF THIS SEAT. 8 by the template 'for every input the law returns true; each argument reads behind the call as it read before'; 0 by the template 'total and deterministic' (their statements: YtcnhdmchoiiceaaTotals.lean).
  GIVEN WITH THE SEED: the statements are not yours to turn. If you find one false, say at which input.
  Laid BY PROGRAM, IN A SANDBOX (cutbox-rows.mjs): the forced cells as the released guide's own fill.sh prints them over the translation a1ca564b4a9a930b… (all of the seat's roots in one cut). By AI agents, Wed Nov 11 2026. No macro, syntax, notation, axiom, sorry.
-/
import Derived.Test.YtcnhdmchoiiceaaChecked
import GoSem.Claim
import GoSem.ClaimJoined
import GoSem.ClaimMapViews
import Derived.JoinedTies
import Derived.KernelRfl
namespace Go.Proofs.Ytcnhdmchoiiceaa
/- THE CELL 'sum', in the pinned program and in every row, IS THE sha256 OF THE DUMP (.gsa) THAT YtcnhdmchoiiceaaProg.lean LOADS. Nothing in Lean hashes anything: it is a label: what it is worth is what the hold of that sum in a sandbox is worth. -/
noncomputable def Try.pinned : Pinned := { name := "ytcnhdmchoiiceaa", sum := "a1ca564b4a9a930b3d61632ae60ff0869775bb80fcc05446da3c7e247ab5e595", checked := Try.checked }
namespace Rows
def none {H : Type} : Left H := { results := [], args := [] }

/-- 'lictorlaw02.SectorWorks': WHATEVER THE INPUT: true; the input reads as it did. -/
def sectorWorksSpec : ChangeSpec := { name := "sectorWorks", fn := fun _ => fun
  | [d1, d2, d3] => { results := [.lit (.bool true)], args := [d1, d2, d3] }
  | _ => none }
def sectorWorksRow : OpenClaim := { program := "ytcnhdmchoiiceaa", sum := "a1ca564b4a9a930b3d61632ae60ff0869775bb80fcc05446da3c7e247ab5e595", func := "lictor/lictorlaw02.SectorWorks", spec := "sectorWorks", unfollowed := true, recurses := true, apart := false }
def SectorWorksSaid : Prop := sectorWorksRow.holds Try.pinned (OpenSpec.ofChange sectorWorksSpec)

/-- ITS FALSE NEIGHBOUR: 'it returns false'. Refute it at one input. -/
def sectorWorksWrong : ChangeSpec := { name := "sectorWorks", fn := fun _ => fun
  | [d1, d2, d3] => { results := [.lit (.bool false)], args := [d1, d2, d3] }
  | _ => none }
def SectorWorksWrongFalsely : Prop := sectorWorksRow.holds Try.pinned (OpenSpec.ofChange sectorWorksWrong)

/-- 'lictorlaw02.SectorReads': WHATEVER THE INPUT: true; the input reads as it did. -/
def sectorReadsSpec : ChangeSpec := { name := "sectorReads", fn := fun _ => fun
  | [d1, d2] => { results := [.lit (.bool true)], args := [d1, d2] }
  | _ => none }
def sectorReadsRow : OpenClaim := { program := "ytcnhdmchoiiceaa", sum := "a1ca564b4a9a930b3d61632ae60ff0869775bb80fcc05446da3c7e247ab5e595", func := "lictor/lictorlaw02.SectorReads", spec := "sectorReads", unfollowed := true, recurses := true, apart := false }
def SectorReadsSaid : Prop := sectorReadsRow.holds Try.pinned (OpenSpec.ofChange sectorReadsSpec)

/-- ITS FALSE NEIGHBOUR: 'it returns false'. Refute it at one input. -/
def sectorReadsWrong : ChangeSpec := { name := "sectorReads", fn := fun _ => fun
  | [d1, d2] => { results := [.lit (.bool false)], args := [d1, d2] }
  | _ => none }
def SectorReadsWrongFalsely : Prop := sectorReadsRow.holds Try.pinned (OpenSpec.ofChange sectorReadsWrong)

/-- 'lictorlaw02.SectorCrashes': WHATEVER THE INPUT: true; the input reads as it did. -/
def sectorCrashesSpec : ChangeSpec := { name := "sectorCrashes", fn := fun _ => fun
  | [d1, d2, d3] => { results := [.lit (.bool true)], args := [d1, d2, d3] }
  | _ => none }
def sectorCrashesRow : OpenClaim := { program := "ytcnhdmchoiiceaa", sum := "a1ca564b4a9a930b3d61632ae60ff0869775bb80fcc05446da3c7e247ab5e595", func := "lictor/lictorlaw02.SectorCrashes", spec := "sectorCrashes", unfollowed := true, recurses := true, apart := false }
def SectorCrashesSaid : Prop := sectorCrashesRow.holds Try.pinned (OpenSpec.ofChange sectorCrashesSpec)

/-- ITS FALSE NEIGHBOUR: 'it returns false'. Refute it at one input. -/
def sectorCrashesWrong : ChangeSpec := { name := "sectorCrashes", fn := fun _ => fun
  | [d1, d2, d3] => { results := [.lit (.bool false)], args := [d1, d2, d3] }
  | _ => none }
def SectorCrashesWrongFalsely : Prop := sectorCrashesRow.holds Try.pinned (OpenSpec.ofChange sectorCrashesWrong)

/-- 'lictorlaw02.SectorSafe': WHATEVER THE INPUT: true; the input reads as it did. -/
def sectorSafeSpec : ChangeSpec := { name := "sectorSafe", fn := fun _ => fun
  | [d1, d2, d3] => { results := [.lit (.bool true)], args := [d1, d2, d3] }
  | _ => none }
def sectorSafeRow : OpenClaim := { program := "ytcnhdmchoiiceaa", sum := "a1ca564b4a9a930b3d61632ae60ff0869775bb80fcc05446da3c7e247ab5e595", func := "lictor/lictorlaw02.SectorSafe", spec := "sectorSafe", unfollowed := true, recurses := true, apart := false }
def SectorSafeSaid : Prop := sectorSafeRow.holds Try.pinned (OpenSpec.ofChange sectorSafeSpec)

/-- ITS FALSE NEIGHBOUR: 'it returns false'. Refute it at one input. -/
def sectorSafeWrong : ChangeSpec := { name := "sectorSafe", fn := fun _ => fun
  | [d1, d2, d3] => { results := [.lit (.bool false)], args := [d1, d2, d3] }
  | _ => none }
def SectorSafeWrongFalsely : Prop := sectorSafeRow.holds Try.pinned (OpenSpec.ofChange sectorSafeWrong)

/-- 'lictortop.TopSums': WHATEVER THE INPUT: true; the input reads as it did. -/
def topSumsSpec : ChangeSpec := { name := "topSums", fn := fun _ => fun
  | [d1, d2, d3, d4] => { results := [.lit (.bool true)], args := [d1, d2, d3, d4] }
  | _ => none }
def topSumsRow : OpenClaim := { program := "ytcnhdmchoiiceaa", sum := "a1ca564b4a9a930b3d61632ae60ff0869775bb80fcc05446da3c7e247ab5e595", func := "lictor/lictortop.TopSums", spec := "topSums", unfollowed := true, recurses := true, apart := false }
def TopSumsSaid : Prop := topSumsRow.holds Try.pinned (OpenSpec.ofChange topSumsSpec)

/-- ITS FALSE NEIGHBOUR: 'it returns false'. Refute it at one input. -/
def topSumsWrong : ChangeSpec := { name := "topSums", fn := fun _ => fun
  | [d1, d2, d3, d4] => { results := [.lit (.bool false)], args := [d1, d2, d3, d4] }
  | _ => none }
def TopSumsWrongFalsely : Prop := topSumsRow.holds Try.pinned (OpenSpec.ofChange topSumsWrong)

/-- 'lictorlaw02.SectorBack': WHATEVER THE INPUT: true; the input reads as it did. -/
def sectorBackSpec : ChangeSpec := { name := "sectorBack", fn := fun _ => fun
  | [d1, d2, d3, d4, d5] => { results := [.lit (.bool true)], args := [d1, d2, d3, d4, d5] }
  | _ => none }
def sectorBackRow : OpenClaim := { program := "ytcnhdmchoiiceaa", sum := "a1ca564b4a9a930b3d61632ae60ff0869775bb80fcc05446da3c7e247ab5e595", func := "lictor/lictorlaw02.SectorBack", spec := "sectorBack", unfollowed := true, recurses := true, apart := false }
def SectorBackSaid : Prop := sectorBackRow.holds Try.pinned (OpenSpec.ofChange sectorBackSpec)

/-- ITS FALSE NEIGHBOUR: 'it returns false'. Refute it at one input. -/
def sectorBackWrong : ChangeSpec := { name := "sectorBack", fn := fun _ => fun
  | [d1, d2, d3, d4, d5] => { results := [.lit (.bool false)], args := [d1, d2, d3, d4, d5] }
  | _ => none }
def SectorBackWrongFalsely : Prop := sectorBackRow.holds Try.pinned (OpenSpec.ofChange sectorBackWrong)

/-- 'lictorlaw02.SectorFuse': WHATEVER THE INPUT: true; the input reads as it did. -/
def sectorFuseSpec : ChangeSpec := { name := "sectorFuse", fn := fun _ => fun
  | [d1, d2, d3] => { results := [.lit (.bool true)], args := [d1, d2, d3] }
  | _ => none }
def sectorFuseRow : OpenClaim := { program := "ytcnhdmchoiiceaa", sum := "a1ca564b4a9a930b3d61632ae60ff0869775bb80fcc05446da3c7e247ab5e595", func := "lictor/lictorlaw02.SectorFuse", spec := "sectorFuse", unfollowed := true, recurses := true, apart := false }
def SectorFuseSaid : Prop := sectorFuseRow.holds Try.pinned (OpenSpec.ofChange sectorFuseSpec)

/-- ITS FALSE NEIGHBOUR: 'it returns false'. Refute it at one input. -/
def sectorFuseWrong : ChangeSpec := { name := "sectorFuse", fn := fun _ => fun
  | [d1, d2, d3] => { results := [.lit (.bool false)], args := [d1, d2, d3] }
  | _ => none }
def SectorFuseWrongFalsely : Prop := sectorFuseRow.holds Try.pinned (OpenSpec.ofChange sectorFuseWrong)

/-- 'lictorlaw02.SectorTwice': WHATEVER THE INPUT: true; the input reads as it did. -/
def sectorTwiceSpec : ChangeSpec := { name := "sectorTwice", fn := fun _ => fun
  | [d1, d2, d3] => { results := [.lit (.bool true)], args := [d1, d2, d3] }
  | _ => none }
def sectorTwiceRow : OpenClaim := { program := "ytcnhdmchoiiceaa", sum := "a1ca564b4a9a930b3d61632ae60ff0869775bb80fcc05446da3c7e247ab5e595", func := "lictor/lictorlaw02.SectorTwice", spec := "sectorTwice", unfollowed := true, recurses := true, apart := false }
def SectorTwiceSaid : Prop := sectorTwiceRow.holds Try.pinned (OpenSpec.ofChange sectorTwiceSpec)

/-- ITS FALSE NEIGHBOUR: 'it returns false'. Refute it at one input. -/
def sectorTwiceWrong : ChangeSpec := { name := "sectorTwice", fn := fun _ => fun
  | [d1, d2, d3] => { results := [.lit (.bool false)], args := [d1, d2, d3] }
  | _ => none }
def SectorTwiceWrongFalsely : Prop := sectorTwiceRow.holds Try.pinned (OpenSpec.ofChange sectorTwiceWrong)

/- THE SECOND FORM. 'bulk': how many values and letters a reading holds, each counted each time it is reached (what is shared counts as often as it is met; a slice's spare places count too). A statement '..UptoSaid' is the law's where the arguments, and the package variables that the reading takes, are together of bulk at most 1048576: NARROWER than '..Said'. Prove '..Said' where nothing that the law and all that it calls make is longer than what came in: it says more and counts as full. Else prove '..UptoSaid'. A law counts once. -/
mutual
def uptoBulk {H : Type} : DataW H → Nat
  | .lit (.string bytes) => bytes.length + 1
  | .lit _ => 1
  | .nil => 1
  | .ptr d => uptoBulk d + 1
  | .slice elems spare => uptoBulkAll elems + uptoBulkAll spare + 1
  | .agg parts => uptoBulkAll parts + 1
  | .iface _ d => uptoBulk d + 1
  | .map entries => uptoBulkEntries entries + 1
  | .held _ => 1
def uptoBulkAll {H : Type} : List (DataW H) → Nat
  | [] => 0
  | d :: r => uptoBulk d + uptoBulkAll r
def uptoBulkEntries {H : Type} : List (Lit × DataW H) → Nat
  | [] => 0
  | x :: r => uptoBulkEntry x + uptoBulkEntries r
def uptoBulkEntry {H : Type} : Lit × DataW H → Nat
  | (.string bytes, d) => bytes.length + uptoBulk d + 1
  | (_, d) => uptoBulk d + 1
 end
def uptoSmall : (H : Type) → List (DataW H) → Bool := fun _ ds => decide (uptoBulkAll ds ≤ 1048576)
def OpenSpec.upto (s : _root_.Go.ChangeSpec) : _root_.Go.OpenSpec := { _root_.Go.OpenSpec.ofChange s with cond := some uptoSmall }

/-- 'lictorlaw02.SectorWorks', WHERE WHAT IT READS IS OF BULK AT MOST 1048576: true; the input reads as it did. -/
def sectorWorksUptoRow : OpenClaim := { program := "ytcnhdmchoiiceaa", sum := "a1ca564b4a9a930b3d61632ae60ff0869775bb80fcc05446da3c7e247ab5e595", func := "lictor/lictorlaw02.SectorWorks", spec := "sectorWorks", unfollowed := true, recurses := true, apart := false, narrowed := true }
def SectorWorksUptoSaid : Prop := sectorWorksUptoRow.holds Try.pinned (OpenSpec.upto sectorWorksSpec)

/-- 'lictorlaw02.SectorReads', WHERE WHAT IT READS IS OF BULK AT MOST 1048576: true; the input reads as it did. -/
def sectorReadsUptoRow : OpenClaim := { program := "ytcnhdmchoiiceaa", sum := "a1ca564b4a9a930b3d61632ae60ff0869775bb80fcc05446da3c7e247ab5e595", func := "lictor/lictorlaw02.SectorReads", spec := "sectorReads", unfollowed := true, recurses := true, apart := false, narrowed := true }
def SectorReadsUptoSaid : Prop := sectorReadsUptoRow.holds Try.pinned (OpenSpec.upto sectorReadsSpec)

/-- 'lictorlaw02.SectorCrashes', WHERE WHAT IT READS IS OF BULK AT MOST 1048576: true; the input reads as it did. -/
def sectorCrashesUptoRow : OpenClaim := { program := "ytcnhdmchoiiceaa", sum := "a1ca564b4a9a930b3d61632ae60ff0869775bb80fcc05446da3c7e247ab5e595", func := "lictor/lictorlaw02.SectorCrashes", spec := "sectorCrashes", unfollowed := true, recurses := true, apart := false, narrowed := true }
def SectorCrashesUptoSaid : Prop := sectorCrashesUptoRow.holds Try.pinned (OpenSpec.upto sectorCrashesSpec)

/-- 'lictorlaw02.SectorSafe', WHERE WHAT IT READS IS OF BULK AT MOST 1048576: true; the input reads as it did. -/
def sectorSafeUptoRow : OpenClaim := { program := "ytcnhdmchoiiceaa", sum := "a1ca564b4a9a930b3d61632ae60ff0869775bb80fcc05446da3c7e247ab5e595", func := "lictor/lictorlaw02.SectorSafe", spec := "sectorSafe", unfollowed := true, recurses := true, apart := false, narrowed := true }
def SectorSafeUptoSaid : Prop := sectorSafeUptoRow.holds Try.pinned (OpenSpec.upto sectorSafeSpec)

/-- 'lictortop.TopSums', WHERE WHAT IT READS IS OF BULK AT MOST 1048576: true; the input reads as it did. -/
def topSumsUptoRow : OpenClaim := { program := "ytcnhdmchoiiceaa", sum := "a1ca564b4a9a930b3d61632ae60ff0869775bb80fcc05446da3c7e247ab5e595", func := "lictor/lictortop.TopSums", spec := "topSums", unfollowed := true, recurses := true, apart := false, narrowed := true }
def TopSumsUptoSaid : Prop := topSumsUptoRow.holds Try.pinned (OpenSpec.upto topSumsSpec)

/-- 'lictorlaw02.SectorBack', WHERE WHAT IT READS IS OF BULK AT MOST 1048576: true; the input reads as it did. -/
def sectorBackUptoRow : OpenClaim := { program := "ytcnhdmchoiiceaa", sum := "a1ca564b4a9a930b3d61632ae60ff0869775bb80fcc05446da3c7e247ab5e595", func := "lictor/lictorlaw02.SectorBack", spec := "sectorBack", unfollowed := true, recurses := true, apart := false, narrowed := true }
def SectorBackUptoSaid : Prop := sectorBackUptoRow.holds Try.pinned (OpenSpec.upto sectorBackSpec)

/-- 'lictorlaw02.SectorFuse', WHERE WHAT IT READS IS OF BULK AT MOST 1048576: true; the input reads as it did. -/
def sectorFuseUptoRow : OpenClaim := { program := "ytcnhdmchoiiceaa", sum := "a1ca564b4a9a930b3d61632ae60ff0869775bb80fcc05446da3c7e247ab5e595", func := "lictor/lictorlaw02.SectorFuse", spec := "sectorFuse", unfollowed := true, recurses := true, apart := false, narrowed := true }
def SectorFuseUptoSaid : Prop := sectorFuseUptoRow.holds Try.pinned (OpenSpec.upto sectorFuseSpec)

/-- 'lictorlaw02.SectorTwice', WHERE WHAT IT READS IS OF BULK AT MOST 1048576: true; the input reads as it did. -/
def sectorTwiceUptoRow : OpenClaim := { program := "ytcnhdmchoiiceaa", sum := "a1ca564b4a9a930b3d61632ae60ff0869775bb80fcc05446da3c7e247ab5e595", func := "lictor/lictorlaw02.SectorTwice", spec := "sectorTwice", unfollowed := true, recurses := true, apart := false, narrowed := true }
def SectorTwiceUptoSaid : Prop := sectorTwiceUptoRow.holds Try.pinned (OpenSpec.upto sectorTwiceSpec)

end Rows
end Go.Proofs.Ytcnhdmchoiiceaa
