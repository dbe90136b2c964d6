/-
  No cell of these rows narrows 'for every input' (looked for: loops, veiled, ifaces, maps, wideKeys, modest, calm, conditions, laid).
  DERIVED. THE GIVEN ROWS OF THIS SEAT. 11 by the template 'for every input the law returns true; each argument reads behind the call as it read before'; 0 by the template 'total and deterministic' (their statements: YtioacbiijmeokaaTotals.lean).
  GIVEN WITH THE SEED: the statements are not yours to turn. If you find one false, say at which input.
  Laid BY PROGRAM, IN A SANDBOX (cutbox-rows.mjs): the forced cells as the released guide's own fill.sh prints them over the translation ee5c6fbb0a3b57e8… (all of the seat's roots in one cut). By AI agents, Wed Nov 11 2026. No macro, syntax, notation, axiom, sorry.
-/
import Derived.Test.YtioacbiijmeokaaChecked
import GoSem.Claim
import GoSem.ClaimJoined
import GoSem.ClaimMapViews
import Derived.JoinedTies
import Derived.KernelRfl
namespace Go.Proofs.Ytioacbiijmeokaa
/- THE CELL 'sum', in the pinned program and in every row, IS THE sha256 OF THE DUMP (.gsa) THAT YtioacbiijmeokaaProg.lean LOADS. Nothing in Lean hashes anything: it is a label: what it is worth is what the hold of that sum in a sandbox is worth. -/
noncomputable def Try.pinned : Pinned := { name := "ytioacbiijmeokaa", sum := "ee5c6fbb0a3b57e8057ce2a8ce1550daf3d094397a7a9f8167817439fbf35f80", checked := Try.checked }
namespace Rows
def none {H : Type} : Left H := { results := [], args := [] }

/-- 'lictorlaw01.CrcPuts': WHATEVER THE INPUT: true; the input reads as it did. -/
def crcPutsSpec : ChangeSpec := { name := "crcPuts", fn := fun _ => fun
  | [d1, d2] => { results := [.lit (.bool true)], args := [d1, d2] }
  | _ => none }
def crcPutsRow : OpenClaim := { program := "ytioacbiijmeokaa", sum := "ee5c6fbb0a3b57e8057ce2a8ce1550daf3d094397a7a9f8167817439fbf35f80", func := "lictor/lictorlaw01.CrcPuts", spec := "crcPuts", apart := false }
def CrcPutsSaid : Prop := crcPutsRow.holds Try.pinned (OpenSpec.ofChange crcPutsSpec)

/-- ITS FALSE NEIGHBOUR: 'it returns false'. Refute it at one input. -/
def crcPutsWrong : ChangeSpec := { name := "crcPuts", fn := fun _ => fun
  | [d1, d2] => { results := [.lit (.bool false)], args := [d1, d2] }
  | _ => none }
def CrcPutsWrongFalsely : Prop := crcPutsRow.holds Try.pinned (OpenSpec.ofChange crcPutsWrong)

/-- 'lictorlaw01.CrcFlips': WHATEVER THE INPUT: true; the input reads as it did. -/
def crcFlipsSpec : ChangeSpec := { name := "crcFlips", fn := fun _ => fun
  | [d1, d2] => { results := [.lit (.bool true)], args := [d1, d2] }
  | _ => none }
def crcFlipsRow : OpenClaim := { program := "ytioacbiijmeokaa", sum := "ee5c6fbb0a3b57e8057ce2a8ce1550daf3d094397a7a9f8167817439fbf35f80", func := "lictor/lictorlaw01.CrcFlips", spec := "crcFlips", apart := false }
def CrcFlipsSaid : Prop := crcFlipsRow.holds Try.pinned (OpenSpec.ofChange crcFlipsSpec)

/-- ITS FALSE NEIGHBOUR: 'it returns false'. Refute it at one input. -/
def crcFlipsWrong : ChangeSpec := { name := "crcFlips", fn := fun _ => fun
  | [d1, d2] => { results := [.lit (.bool false)], args := [d1, d2] }
  | _ => none }
def CrcFlipsWrongFalsely : Prop := crcFlipsRow.holds Try.pinned (OpenSpec.ofChange crcFlipsWrong)

/-- 'lictorlaw01.CrcGets': WHATEVER THE INPUT: true; the input reads as it did. -/
def crcGetsSpec : ChangeSpec := { name := "crcGets", fn := fun _ => fun
  | [d] => { results := [.lit (.bool true)], args := [d] }
  | _ => none }
def crcGetsRow : OpenClaim := { program := "ytioacbiijmeokaa", sum := "ee5c6fbb0a3b57e8057ce2a8ce1550daf3d094397a7a9f8167817439fbf35f80", func := "lictor/lictorlaw01.CrcGets", spec := "crcGets", apart := false }
def CrcGetsSaid : Prop := crcGetsRow.holds Try.pinned (OpenSpec.ofChange crcGetsSpec)

/-- ITS FALSE NEIGHBOUR: 'it returns false'. Refute it at one input. -/
def crcGetsWrong : ChangeSpec := { name := "crcGets", fn := fun _ => fun
  | [d] => { results := [.lit (.bool false)], args := [d] }
  | _ => none }
def CrcGetsWrongFalsely : Prop := crcGetsRow.holds Try.pinned (OpenSpec.ofChange crcGetsWrong)

/-- 'lictorlaw01.CrcWidths': WHATEVER THE INPUT: true; the input reads as it did. -/
def crcWidthsSpec : ChangeSpec := { name := "crcWidths", fn := fun _ => fun
  | [d] => { results := [.lit (.bool true)], args := [d] }
  | _ => none }
def crcWidthsRow : OpenClaim := { program := "ytioacbiijmeokaa", sum := "ee5c6fbb0a3b57e8057ce2a8ce1550daf3d094397a7a9f8167817439fbf35f80", func := "lictor/lictorlaw01.CrcWidths", spec := "crcWidths", apart := false }
def CrcWidthsSaid : Prop := crcWidthsRow.holds Try.pinned (OpenSpec.ofChange crcWidthsSpec)

/-- ITS FALSE NEIGHBOUR: 'it returns false'. Refute it at one input. -/
def crcWidthsWrong : ChangeSpec := { name := "crcWidths", fn := fun _ => fun
  | [d] => { results := [.lit (.bool false)], args := [d] }
  | _ => none }
def CrcWidthsWrongFalsely : Prop := crcWidthsRow.holds Try.pinned (OpenSpec.ofChange crcWidthsWrong)

/-- 'lictorlaw01.CrcMore': WHATEVER THE INPUT: true; the input reads as it did. -/
def crcMoreSpec : ChangeSpec := { name := "crcMore", fn := fun _ => fun
  | [d1, d2] => { results := [.lit (.bool true)], args := [d1, d2] }
  | _ => none }
def crcMoreRow : OpenClaim := { program := "ytioacbiijmeokaa", sum := "ee5c6fbb0a3b57e8057ce2a8ce1550daf3d094397a7a9f8167817439fbf35f80", func := "lictor/lictorlaw01.CrcMore", spec := "crcMore", unfollowed := true, recurses := true, apart := false }
def CrcMoreSaid : Prop := crcMoreRow.holds Try.pinned (OpenSpec.ofChange crcMoreSpec)

/-- ITS FALSE NEIGHBOUR: 'it returns false'. Refute it at one input. -/
def crcMoreWrong : ChangeSpec := { name := "crcMore", fn := fun _ => fun
  | [d1, d2] => { results := [.lit (.bool false)], args := [d1, d2] }
  | _ => none }
def CrcMoreWrongFalsely : Prop := crcMoreRow.holds Try.pinned (OpenSpec.ofChange crcMoreWrong)

/-- 'lictorlaw01.CrcSums': WHATEVER THE INPUT: true; the input reads as it did. -/
def crcSumsSpec : ChangeSpec := { name := "crcSums", fn := fun _ => fun
  | [d] => { results := [.lit (.bool true)], args := [d] }
  | _ => none }
def crcSumsRow : OpenClaim := { program := "ytioacbiijmeokaa", sum := "ee5c6fbb0a3b57e8057ce2a8ce1550daf3d094397a7a9f8167817439fbf35f80", func := "lictor/lictorlaw01.CrcSums", spec := "crcSums", unfollowed := true, recurses := true, apart := false }
def CrcSumsSaid : Prop := crcSumsRow.holds Try.pinned (OpenSpec.ofChange crcSumsSpec)

/-- ITS FALSE NEIGHBOUR: 'it returns false'. Refute it at one input. -/
def crcSumsWrong : ChangeSpec := { name := "crcSums", fn := fun _ => fun
  | [d] => { results := [.lit (.bool false)], args := [d] }
  | _ => none }
def CrcSumsWrongFalsely : Prop := crcSumsRow.holds Try.pinned (OpenSpec.ofChange crcSumsWrong)

/-- 'lictorlaw01.CrcJoined': WHATEVER THE INPUT: true; the input reads as it did. -/
def crcJoinedSpec : ChangeSpec := { name := "crcJoined", fn := fun _ => fun
  | [d1, d2] => { results := [.lit (.bool true)], args := [d1, d2] }
  | _ => none }
def crcJoinedRow : OpenClaim := { program := "ytioacbiijmeokaa", sum := "ee5c6fbb0a3b57e8057ce2a8ce1550daf3d094397a7a9f8167817439fbf35f80", func := "lictor/lictorlaw01.CrcJoined", spec := "crcJoined", unfollowed := true, recurses := true, apart := false }
def CrcJoinedSaid : Prop := crcJoinedRow.holds Try.pinned (OpenSpec.ofChange crcJoinedSpec)

/-- ITS FALSE NEIGHBOUR: 'it returns false'. Refute it at one input. -/
def crcJoinedWrong : ChangeSpec := { name := "crcJoined", fn := fun _ => fun
  | [d1, d2] => { results := [.lit (.bool false)], args := [d1, d2] }
  | _ => none }
def CrcJoinedWrongFalsely : Prop := crcJoinedRow.holds Try.pinned (OpenSpec.ofChange crcJoinedWrong)

/-- 'lictorlaw01.CrcCut': WHATEVER THE INPUT: true; the input reads as it did. -/
def crcCutSpec : ChangeSpec := { name := "crcCut", fn := fun _ => fun
  | [d1, d2] => { results := [.lit (.bool true)], args := [d1, d2] }
  | _ => none }
def crcCutRow : OpenClaim := { program := "ytioacbiijmeokaa", sum := "ee5c6fbb0a3b57e8057ce2a8ce1550daf3d094397a7a9f8167817439fbf35f80", func := "lictor/lictorlaw01.CrcCut", spec := "crcCut", unfollowed := true, recurses := true, apart := false }
def CrcCutSaid : Prop := crcCutRow.holds Try.pinned (OpenSpec.ofChange crcCutSpec)

/-- ITS FALSE NEIGHBOUR: 'it returns false'. Refute it at one input. -/
def crcCutWrong : ChangeSpec := { name := "crcCut", fn := fun _ => fun
  | [d1, d2] => { results := [.lit (.bool false)], args := [d1, d2] }
  | _ => none }
def CrcCutWrongFalsely : Prop := crcCutRow.holds Try.pinned (OpenSpec.ofChange crcCutWrong)

/-- 'lictorlaw01.CrcBack': WHATEVER THE INPUT: true; the input reads as it did. -/
def crcBackSpec : ChangeSpec := { name := "crcBack", fn := fun _ => fun
  | [d1, d2] => { results := [.lit (.bool true)], args := [d1, d2] }
  | _ => none }
def crcBackRow : OpenClaim := { program := "ytioacbiijmeokaa", sum := "ee5c6fbb0a3b57e8057ce2a8ce1550daf3d094397a7a9f8167817439fbf35f80", func := "lictor/lictorlaw01.CrcBack", spec := "crcBack", apart := false }
def CrcBackSaid : Prop := crcBackRow.holds Try.pinned (OpenSpec.ofChange crcBackSpec)

/-- ITS FALSE NEIGHBOUR: 'it returns false'. Refute it at one input. -/
def crcBackWrong : ChangeSpec := { name := "crcBack", fn := fun _ => fun
  | [d1, d2] => { results := [.lit (.bool false)], args := [d1, d2] }
  | _ => none }
def CrcBackWrongFalsely : Prop := crcBackRow.holds Try.pinned (OpenSpec.ofChange crcBackWrong)

/-- 'lictorlaw01.CrcTurned': WHATEVER THE INPUT: true; the input reads as it did. -/
def crcTurnedSpec : ChangeSpec := { name := "crcTurned", fn := fun _ => fun
  | [d1, d2, d3] => { results := [.lit (.bool true)], args := [d1, d2, d3] }
  | _ => none }
def crcTurnedRow : OpenClaim := { program := "ytioacbiijmeokaa", sum := "ee5c6fbb0a3b57e8057ce2a8ce1550daf3d094397a7a9f8167817439fbf35f80", func := "lictor/lictorlaw01.CrcTurned", spec := "crcTurned", unfollowed := true, recurses := true, apart := false }
def CrcTurnedSaid : Prop := crcTurnedRow.holds Try.pinned (OpenSpec.ofChange crcTurnedSpec)

/-- ITS FALSE NEIGHBOUR: 'it returns false'. Refute it at one input. -/
def crcTurnedWrong : ChangeSpec := { name := "crcTurned", fn := fun _ => fun
  | [d1, d2, d3] => { results := [.lit (.bool false)], args := [d1, d2, d3] }
  | _ => none }
def CrcTurnedWrongFalsely : Prop := crcTurnedRow.holds Try.pinned (OpenSpec.ofChange crcTurnedWrong)

/-- 'lictorlaw06.ValueSums': WHATEVER THE INPUT: true; the input reads as it did. -/
def valueSumsSpec : ChangeSpec := { name := "valueSums", fn := fun _ => fun
  | [d1, d2, d3] => { results := [.lit (.bool true)], args := [d1, d2, d3] }
  | _ => none }
def valueSumsRow : OpenClaim := { program := "ytioacbiijmeokaa", sum := "ee5c6fbb0a3b57e8057ce2a8ce1550daf3d094397a7a9f8167817439fbf35f80", func := "lictor/lictorlaw06.ValueSums", spec := "valueSums", unfollowed := true, recurses := true, apart := false }
def ValueSumsSaid : Prop := valueSumsRow.holds Try.pinned (OpenSpec.ofChange valueSumsSpec)

/-- ITS FALSE NEIGHBOUR: 'it returns false'. Refute it at one input. -/
def valueSumsWrong : ChangeSpec := { name := "valueSums", fn := fun _ => fun
  | [d1, d2, d3] => { results := [.lit (.bool false)], args := [d1, d2, d3] }
  | _ => none }
def ValueSumsWrongFalsely : Prop := valueSumsRow.holds Try.pinned (OpenSpec.ofChange valueSumsWrong)

/- THE SECOND FORM. 'bulk': how many values and letters a reading holds, each counted each time it is reached (what is shared counts as often as it is met; a slice's spare places count too). A statement '..UptoSaid' is the law's where the arguments, and the package variables that the reading takes, are together of bulk at most 1048576: NARROWER than '..Said'. Prove '..Said' where nothing that the law and all that it calls make is longer than what came in: it says more and counts as full. Else prove '..UptoSaid'. A law counts once. -/
mutual
def uptoBulk {H : Type} : DataW H → Nat
  | .lit (.string bytes) => bytes.length + 1
  | .lit _ => 1
  | .nil => 1
  | .ptr d => uptoBulk d + 1
  | .slice elems spare => uptoBulkAll elems + uptoBulkAll spare + 1
  | .agg parts => uptoBulkAll parts + 1
  | .iface _ d => uptoBulk d + 1
  | .map entries => uptoBulkEntries entries + 1
  | .held _ => 1
def uptoBulkAll {H : Type} : List (DataW H) → Nat
  | [] => 0
  | d :: r => uptoBulk d + uptoBulkAll r
def uptoBulkEntries {H : Type} : List (Lit × DataW H) → Nat
  | [] => 0
  | x :: r => uptoBulkEntry x + uptoBulkEntries r
def uptoBulkEntry {H : Type} : Lit × DataW H → Nat
  | (.string bytes, d) => bytes.length + uptoBulk d + 1
  | (_, d) => uptoBulk d + 1
 end
def uptoSmall : (H : Type) → List (DataW H) → Bool := fun _ ds => decide (uptoBulkAll ds ≤ 1048576)
def OpenSpec.upto (s : _root_.Go.ChangeSpec) : _root_.Go.OpenSpec := { _root_.Go.OpenSpec.ofChange s with cond := some uptoSmall }

/-- 'lictorlaw01.CrcPuts', WHERE WHAT IT READS IS OF BULK AT MOST 1048576: true; the input reads as it did. -/
def crcPutsUptoRow : OpenClaim := { program := "ytioacbiijmeokaa", sum := "ee5c6fbb0a3b57e8057ce2a8ce1550daf3d094397a7a9f8167817439fbf35f80", func := "lictor/lictorlaw01.CrcPuts", spec := "crcPuts", apart := false, narrowed := true }
def CrcPutsUptoSaid : Prop := crcPutsUptoRow.holds Try.pinned (OpenSpec.upto crcPutsSpec)

/-- 'lictorlaw01.CrcFlips', WHERE WHAT IT READS IS OF BULK AT MOST 1048576: true; the input reads as it did. -/
def crcFlipsUptoRow : OpenClaim := { program := "ytioacbiijmeokaa", sum := "ee5c6fbb0a3b57e8057ce2a8ce1550daf3d094397a7a9f8167817439fbf35f80", func := "lictor/lictorlaw01.CrcFlips", spec := "crcFlips", apart := false, narrowed := true }
def CrcFlipsUptoSaid : Prop := crcFlipsUptoRow.holds Try.pinned (OpenSpec.upto crcFlipsSpec)

/-- 'lictorlaw01.CrcGets', WHERE WHAT IT READS IS OF BULK AT MOST 1048576: true; the input reads as it did. -/
def crcGetsUptoRow : OpenClaim := { program := "ytioacbiijmeokaa", sum := "ee5c6fbb0a3b57e8057ce2a8ce1550daf3d094397a7a9f8167817439fbf35f80", func := "lictor/lictorlaw01.CrcGets", spec := "crcGets", apart := false, narrowed := true }
def CrcGetsUptoSaid : Prop := crcGetsUptoRow.holds Try.pinned (OpenSpec.upto crcGetsSpec)

/-- 'lictorlaw01.CrcWidths', WHERE WHAT IT READS IS OF BULK AT MOST 1048576: true; the input reads as it did. -/
def crcWidthsUptoRow : OpenClaim := { program := "ytioacbiijmeokaa", sum := "ee5c6fbb0a3b57e8057ce2a8ce1550daf3d094397a7a9f8167817439fbf35f80", func := "lictor/lictorlaw01.CrcWidths", spec := "crcWidths", apart := false, narrowed := true }
def CrcWidthsUptoSaid : Prop := crcWidthsUptoRow.holds Try.pinned (OpenSpec.upto crcWidthsSpec)

/-- 'lictorlaw01.CrcMore', WHERE WHAT IT READS IS OF BULK AT MOST 1048576: true; the input reads as it did. -/
def crcMoreUptoRow : OpenClaim := { program := "ytioacbiijmeokaa", sum := "ee5c6fbb0a3b57e8057ce2a8ce1550daf3d094397a7a9f8167817439fbf35f80", func := "lictor/lictorlaw01.CrcMore", spec := "crcMore", unfollowed := true, recurses := true, apart := false, narrowed := true }
def CrcMoreUptoSaid : Prop := crcMoreUptoRow.holds Try.pinned (OpenSpec.upto crcMoreSpec)

/-- 'lictorlaw01.CrcSums', WHERE WHAT IT READS IS OF BULK AT MOST 1048576: true; the input reads as it did. -/
def crcSumsUptoRow : OpenClaim := { program := "ytioacbiijmeokaa", sum := "ee5c6fbb0a3b57e8057ce2a8ce1550daf3d094397a7a9f8167817439fbf35f80", func := "lictor/lictorlaw01.CrcSums", spec := "crcSums", unfollowed := true, recurses := true, apart := false, narrowed := true }
def CrcSumsUptoSaid : Prop := crcSumsUptoRow.holds Try.pinned (OpenSpec.upto crcSumsSpec)

/-- 'lictorlaw01.CrcJoined', WHERE WHAT IT READS IS OF BULK AT MOST 1048576: true; the input reads as it did. -/
def crcJoinedUptoRow : OpenClaim := { program := "ytioacbiijmeokaa", sum := "ee5c6fbb0a3b57e8057ce2a8ce1550daf3d094397a7a9f8167817439fbf35f80", func := "lictor/lictorlaw01.CrcJoined", spec := "crcJoined", unfollowed := true, recurses := true, apart := false, narrowed := true }
def CrcJoinedUptoSaid : Prop := crcJoinedUptoRow.holds Try.pinned (OpenSpec.upto crcJoinedSpec)

/-- 'lictorlaw01.CrcCut', WHERE WHAT IT READS IS OF BULK AT MOST 1048576: true; the input reads as it did. -/
def crcCutUptoRow : OpenClaim := { program := "ytioacbiijmeokaa", sum := "ee5c6fbb0a3b57e8057ce2a8ce1550daf3d094397a7a9f8167817439fbf35f80", func := "lictor/lictorlaw01.CrcCut", spec := "crcCut", unfollowed := true, recurses := true, apart := false, narrowed := true }
def CrcCutUptoSaid : Prop := crcCutUptoRow.holds Try.pinned (OpenSpec.upto crcCutSpec)

/-- 'lictorlaw01.CrcBack', WHERE WHAT IT READS IS OF BULK AT MOST 1048576: true; the input reads as it did. -/
def crcBackUptoRow : OpenClaim := { program := "ytioacbiijmeokaa", sum := "ee5c6fbb0a3b57e8057ce2a8ce1550daf3d094397a7a9f8167817439fbf35f80", func := "lictor/lictorlaw01.CrcBack", spec := "crcBack", apart := false, narrowed := true }
def CrcBackUptoSaid : Prop := crcBackUptoRow.holds Try.pinned (OpenSpec.upto crcBackSpec)

/-- 'lictorlaw01.CrcTurned', WHERE WHAT IT READS IS OF BULK AT MOST 1048576: true; the input reads as it did. -/
def crcTurnedUptoRow : OpenClaim := { program := "ytioacbiijmeokaa", sum := "ee5c6fbb0a3b57e8057ce2a8ce1550daf3d094397a7a9f8167817439fbf35f80", func := "lictor/lictorlaw01.CrcTurned", spec := "crcTurned", unfollowed := true, recurses := true, apart := false, narrowed := true }
def CrcTurnedUptoSaid : Prop := crcTurnedUptoRow.holds Try.pinned (OpenSpec.upto crcTurnedSpec)

/-- 'lictorlaw06.ValueSums', WHERE WHAT IT READS IS OF BULK AT MOST 1048576: true; the input reads as it did. -/
def valueSumsUptoRow : OpenClaim := { program := "ytioacbiijmeokaa", sum := "ee5c6fbb0a3b57e8057ce2a8ce1550daf3d094397a7a9f8167817439fbf35f80", func := "lictor/lictorlaw06.ValueSums", spec := "valueSums", unfollowed := true, recurses := true, apart := false, narrowed := true }
def ValueSumsUptoSaid : Prop := valueSumsUptoRow.holds Try.pinned (OpenSpec.upto valueSumsSpec)

end Rows
end Go.Proofs.Ytioacbiijmeokaa
