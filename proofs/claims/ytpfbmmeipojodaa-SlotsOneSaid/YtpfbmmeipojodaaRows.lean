/-
  No cell of these rows narrows 'for every input' (looked for: loops, veiled, ifaces, maps, wideKeys, modest, calm, conditions, laid).
  DERIVED. THE GIVEN ROWS OF THIS SEAT. 6 by the template 'for every input the law returns true; each argument reads behind the call as it read before'; 0 by the template 'total and deterministic' (their statements: YtpfbmmeipojodaaTotals.lean).
  GIVEN WITH THE SEED: the statements are not yours to turn. If you find one false, say at which input.
  Laid BY PROGRAM, IN A SANDBOX (cutbox-rows.mjs): the forced cells as the released guide's own fill.sh prints them over the translation 0e2154e0a208fbfe… (all of the seat's roots in one cut). By AI agents, Wed Nov 11 2026. No macro, syntax, notation, axiom, sorry.
-/
import Derived.Test.YtpfbmmeipojodaaChecked
import GoSem.Claim
import GoSem.ClaimJoined
import GoSem.ClaimMapViews
import Derived.JoinedTies
import Derived.KernelRfl
namespace Go.Proofs.Ytpfbmmeipojodaa
/- THE CELL 'sum', in the pinned program and in every row, IS THE sha256 OF THE DUMP (.gsa) THAT YtpfbmmeipojodaaProg.lean LOADS. Nothing in Lean hashes anything: it is a label: what it is worth is what the hold of that sum in a sandbox is worth. -/
noncomputable def Try.pinned : Pinned := { name := "ytpfbmmeipojodaa", sum := "0e2154e0a208fbfee0f1a995fd155c332bdd2adc1b4a645211f9631b13c27dd6", checked := Try.checked }
namespace Rows
def none {H : Type} : Left H := { results := [], args := [] }

/-- 'lictortop.TopImages': WHATEVER THE INPUT: true; the input reads as it did. -/
def topImagesSpec : ChangeSpec := { name := "topImages", fn := fun _ => fun
  | [d1, d2, d3, d4] => { results := [.lit (.bool true)], args := [d1, d2, d3, d4] }
  | _ => none }
def topImagesRow : OpenClaim := { program := "ytpfbmmeipojodaa", sum := "0e2154e0a208fbfee0f1a995fd155c332bdd2adc1b4a645211f9631b13c27dd6", func := "lictor/lictortop.TopImages", spec := "topImages", inPlace := ["internal/abi.NoEscape"], unfollowed := true, recurses := true, apart := false }
def TopImagesSaid : Prop := topImagesRow.holds Try.pinned (OpenSpec.ofChange topImagesSpec)

/-- ITS FALSE NEIGHBOUR: 'it returns false'. Refute it at one input. -/
def topImagesWrong : ChangeSpec := { name := "topImages", fn := fun _ => fun
  | [d1, d2, d3, d4] => { results := [.lit (.bool false)], args := [d1, d2, d3, d4] }
  | _ => none }
def TopImagesWrongFalsely : Prop := topImagesRow.holds Try.pinned (OpenSpec.ofChange topImagesWrong)

/-- 'lictorlaw05.SlotsDo': WHATEVER THE INPUT: true; the input reads as it did. -/
def slotsDoSpec : ChangeSpec := { name := "slotsDo", fn := fun _ => fun
  | [d1, d2, d3, d4] => { results := [.lit (.bool true)], args := [d1, d2, d3, d4] }
  | _ => none }
def slotsDoRow : OpenClaim := { program := "ytpfbmmeipojodaa", sum := "0e2154e0a208fbfee0f1a995fd155c332bdd2adc1b4a645211f9631b13c27dd6", func := "lictor/lictorlaw05.SlotsDo", spec := "slotsDo", inPlace := ["internal/abi.NoEscape"], unfollowed := true, recurses := true, apart := false }
def SlotsDoSaid : Prop := slotsDoRow.holds Try.pinned (OpenSpec.ofChange slotsDoSpec)

/-- ITS FALSE NEIGHBOUR: 'it returns false'. Refute it at one input. -/
def slotsDoWrong : ChangeSpec := { name := "slotsDo", fn := fun _ => fun
  | [d1, d2, d3, d4] => { results := [.lit (.bool false)], args := [d1, d2, d3, d4] }
  | _ => none }
def SlotsDoWrongFalsely : Prop := slotsDoRow.holds Try.pinned (OpenSpec.ofChange slotsDoWrong)

/-- 'lictorlaw05.SlotsTurns': WHATEVER THE INPUT: true; the input reads as it did. -/
def slotsTurnsSpec : ChangeSpec := { name := "slotsTurns", fn := fun _ => fun
  | [d1, d2] => { results := [.lit (.bool true)], args := [d1, d2] }
  | _ => none }
def slotsTurnsRow : OpenClaim := { program := "ytpfbmmeipojodaa", sum := "0e2154e0a208fbfee0f1a995fd155c332bdd2adc1b4a645211f9631b13c27dd6", func := "lictor/lictorlaw05.SlotsTurns", spec := "slotsTurns", inPlace := ["internal/abi.NoEscape"], unfollowed := true, recurses := true, apart := false }
def SlotsTurnsSaid : Prop := slotsTurnsRow.holds Try.pinned (OpenSpec.ofChange slotsTurnsSpec)

/-- ITS FALSE NEIGHBOUR: 'it returns false'. Refute it at one input. -/
def slotsTurnsWrong : ChangeSpec := { name := "slotsTurns", fn := fun _ => fun
  | [d1, d2] => { results := [.lit (.bool false)], args := [d1, d2] }
  | _ => none }
def SlotsTurnsWrongFalsely : Prop := slotsTurnsRow.holds Try.pinned (OpenSpec.ofChange slotsTurnsWrong)

/-- 'lictorlaw05.SlotsOther': WHATEVER THE INPUT: true; the input reads as it did. -/
def slotsOtherSpec : ChangeSpec := { name := "slotsOther", fn := fun _ => fun
  | [d1, d2, d3, d4] => { results := [.lit (.bool true)], args := [d1, d2, d3, d4] }
  | _ => none }
def slotsOtherRow : OpenClaim := { program := "ytpfbmmeipojodaa", sum := "0e2154e0a208fbfee0f1a995fd155c332bdd2adc1b4a645211f9631b13c27dd6", func := "lictor/lictorlaw05.SlotsOther", spec := "slotsOther", inPlace := ["internal/abi.NoEscape"], unfollowed := true, recurses := true, apart := false }
def SlotsOtherSaid : Prop := slotsOtherRow.holds Try.pinned (OpenSpec.ofChange slotsOtherSpec)

/-- ITS FALSE NEIGHBOUR: 'it returns false'. Refute it at one input. -/
def slotsOtherWrong : ChangeSpec := { name := "slotsOther", fn := fun _ => fun
  | [d1, d2, d3, d4] => { results := [.lit (.bool false)], args := [d1, d2, d3, d4] }
  | _ => none }
def SlotsOtherWrongFalsely : Prop := slotsOtherRow.holds Try.pinned (OpenSpec.ofChange slotsOtherWrong)

/-- 'lictorlaw05.SlotsTurned': WHATEVER THE INPUT: true; the input reads as it did. -/
def slotsTurnedSpec : ChangeSpec := { name := "slotsTurned", fn := fun _ => fun
  | [d1, d2, d3] => { results := [.lit (.bool true)], args := [d1, d2, d3] }
  | _ => none }
def slotsTurnedRow : OpenClaim := { program := "ytpfbmmeipojodaa", sum := "0e2154e0a208fbfee0f1a995fd155c332bdd2adc1b4a645211f9631b13c27dd6", func := "lictor/lictorlaw05.SlotsTurned", spec := "slotsTurned", inPlace := ["internal/abi.NoEscape"], unfollowed := true, recurses := true, apart := false }
def SlotsTurnedSaid : Prop := slotsTurnedRow.holds Try.pinned (OpenSpec.ofChange slotsTurnedSpec)

/-- ITS FALSE NEIGHBOUR: 'it returns false'. Refute it at one input. -/
def slotsTurnedWrong : ChangeSpec := { name := "slotsTurned", fn := fun _ => fun
  | [d1, d2, d3] => { results := [.lit (.bool false)], args := [d1, d2, d3] }
  | _ => none }
def SlotsTurnedWrongFalsely : Prop := slotsTurnedRow.holds Try.pinned (OpenSpec.ofChange slotsTurnedWrong)

/-- 'lictorlaw05.SlotsOne': WHATEVER THE INPUT: true; the input reads as it did. -/
def slotsOneSpec : ChangeSpec := { name := "slotsOne", fn := fun _ => fun
  | [d1, d2, d3, d4, d5] => { results := [.lit (.bool true)], args := [d1, d2, d3, d4, d5] }
  | _ => none }
def slotsOneRow : OpenClaim := { program := "ytpfbmmeipojodaa", sum := "0e2154e0a208fbfee0f1a995fd155c332bdd2adc1b4a645211f9631b13c27dd6", func := "lictor/lictorlaw05.SlotsOne", spec := "slotsOne", inPlace := ["internal/abi.NoEscape"], unfollowed := true, recurses := true, apart := false }
def SlotsOneSaid : Prop := slotsOneRow.holds Try.pinned (OpenSpec.ofChange slotsOneSpec)

/-- ITS FALSE NEIGHBOUR: 'it returns false'. Refute it at one input. -/
def slotsOneWrong : ChangeSpec := { name := "slotsOne", fn := fun _ => fun
  | [d1, d2, d3, d4, d5] => { results := [.lit (.bool false)], args := [d1, d2, d3, d4, d5] }
  | _ => none }
def SlotsOneWrongFalsely : Prop := slotsOneRow.holds Try.pinned (OpenSpec.ofChange slotsOneWrong)

/- THE SECOND FORM. 'bulk': how many values and letters a reading holds, each counted each time it is reached (what is shared counts as often as it is met; a slice's spare places count too). A statement '..UptoSaid' is the law's where the arguments, and the package variables that the reading takes, are together of bulk at most 1048576: NARROWER than '..Said'. Prove '..Said' where nothing that the law and all that it calls make is longer than what came in: it says more and counts as full. Else prove '..UptoSaid'. A law counts once. -/
mutual
def uptoBulk {H : Type} : DataW H → Nat
  | .lit (.string bytes) => bytes.length + 1
  | .lit _ => 1
  | .nil => 1
  | .ptr d => uptoBulk d + 1
  | .slice elems spare => uptoBulkAll elems + uptoBulkAll spare + 1
  | .agg parts => uptoBulkAll parts + 1
  | .iface _ d => uptoBulk d + 1
  | .map entries => uptoBulkEntries entries + 1
  | .held _ => 1
def uptoBulkAll {H : Type} : List (DataW H) → Nat
  | [] => 0
  | d :: r => uptoBulk d + uptoBulkAll r
def uptoBulkEntries {H : Type} : List (Lit × DataW H) → Nat
  | [] => 0
  | x :: r => uptoBulkEntry x + uptoBulkEntries r
def uptoBulkEntry {H : Type} : Lit × DataW H → Nat
  | (.string bytes, d) => bytes.length + uptoBulk d + 1
  | (_, d) => uptoBulk d + 1
 end
def uptoSmall : (H : Type) → List (DataW H) → Bool := fun _ ds => decide (uptoBulkAll ds ≤ 1048576)
def OpenSpec.upto (s : _root_.Go.ChangeSpec) : _root_.Go.OpenSpec := { _root_.Go.OpenSpec.ofChange s with cond := some uptoSmall }

/-- 'lictortop.TopImages', WHERE WHAT IT READS IS OF BULK AT MOST 1048576: true; the input reads as it did. -/
def topImagesUptoRow : OpenClaim := { program := "ytpfbmmeipojodaa", sum := "0e2154e0a208fbfee0f1a995fd155c332bdd2adc1b4a645211f9631b13c27dd6", func := "lictor/lictortop.TopImages", spec := "topImages", inPlace := ["internal/abi.NoEscape"], unfollowed := true, recurses := true, apart := false, narrowed := true }
def TopImagesUptoSaid : Prop := topImagesUptoRow.holds Try.pinned (OpenSpec.upto topImagesSpec)

/-- 'lictorlaw05.SlotsDo', WHERE WHAT IT READS IS OF BULK AT MOST 1048576: true; the input reads as it did. -/
def slotsDoUptoRow : OpenClaim := { program := "ytpfbmmeipojodaa", sum := "0e2154e0a208fbfee0f1a995fd155c332bdd2adc1b4a645211f9631b13c27dd6", func := "lictor/lictorlaw05.SlotsDo", spec := "slotsDo", inPlace := ["internal/abi.NoEscape"], unfollowed := true, recurses := true, apart := false, narrowed := true }
def SlotsDoUptoSaid : Prop := slotsDoUptoRow.holds Try.pinned (OpenSpec.upto slotsDoSpec)

/-- 'lictorlaw05.SlotsTurns', WHERE WHAT IT READS IS OF BULK AT MOST 1048576: true; the input reads as it did. -/
def slotsTurnsUptoRow : OpenClaim := { program := "ytpfbmmeipojodaa", sum := "0e2154e0a208fbfee0f1a995fd155c332bdd2adc1b4a645211f9631b13c27dd6", func := "lictor/lictorlaw05.SlotsTurns", spec := "slotsTurns", inPlace := ["internal/abi.NoEscape"], unfollowed := true, recurses := true, apart := false, narrowed := true }
def SlotsTurnsUptoSaid : Prop := slotsTurnsUptoRow.holds Try.pinned (OpenSpec.upto slotsTurnsSpec)

/-- 'lictorlaw05.SlotsOther', WHERE WHAT IT READS IS OF BULK AT MOST 1048576: true; the input reads as it did. -/
def slotsOtherUptoRow : OpenClaim := { program := "ytpfbmmeipojodaa", sum := "0e2154e0a208fbfee0f1a995fd155c332bdd2adc1b4a645211f9631b13c27dd6", func := "lictor/lictorlaw05.SlotsOther", spec := "slotsOther", inPlace := ["internal/abi.NoEscape"], unfollowed := true, recurses := true, apart := false, narrowed := true }
def SlotsOtherUptoSaid : Prop := slotsOtherUptoRow.holds Try.pinned (OpenSpec.upto slotsOtherSpec)

/-- 'lictorlaw05.SlotsTurned', WHERE WHAT IT READS IS OF BULK AT MOST 1048576: true; the input reads as it did. -/
def slotsTurnedUptoRow : OpenClaim := { program := "ytpfbmmeipojodaa", sum := "0e2154e0a208fbfee0f1a995fd155c332bdd2adc1b4a645211f9631b13c27dd6", func := "lictor/lictorlaw05.SlotsTurned", spec := "slotsTurned", inPlace := ["internal/abi.NoEscape"], unfollowed := true, recurses := true, apart := false, narrowed := true }
def SlotsTurnedUptoSaid : Prop := slotsTurnedUptoRow.holds Try.pinned (OpenSpec.upto slotsTurnedSpec)

/-- 'lictorlaw05.SlotsOne', WHERE WHAT IT READS IS OF BULK AT MOST 1048576: true; the input reads as it did. -/
def slotsOneUptoRow : OpenClaim := { program := "ytpfbmmeipojodaa", sum := "0e2154e0a208fbfee0f1a995fd155c332bdd2adc1b4a645211f9631b13c27dd6", func := "lictor/lictorlaw05.SlotsOne", spec := "slotsOne", inPlace := ["internal/abi.NoEscape"], unfollowed := true, recurses := true, apart := false, narrowed := true }
def SlotsOneUptoSaid : Prop := slotsOneUptoRow.holds Try.pinned (OpenSpec.upto slotsOneSpec)

end Rows
end Go.Proofs.Ytpfbmmeipojodaa
