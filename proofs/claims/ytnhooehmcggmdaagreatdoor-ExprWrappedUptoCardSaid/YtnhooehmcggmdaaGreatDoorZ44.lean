/- Parts of a proof about the given program: XLawTexts. -/
import Derived.Lib.SmallJoins
import Derived.Deep.Slices
import Derived.SliceStrings
import Derived.Test.YtnhooehmcggmdaaGreatDoorZ02
namespace Go.Proofs.YtnhooehmcggmdaaGreatDoor
set_option maxHeartbeats 16000000
set_option linter.unusedVariables false
set_option linter.unusedSimpArgs false
set_option linter.unusedSectionVars false
open Go.Joins Go.ChangeShapes Go.WideShapes Go.RowKit Go.Deep
theorem Zqz {w:World} {a:Addr} {u:Value} (h:w.cell? a=some u):a=⟨a.block,a.off,none⟩:=by
 rcases a with ⟨b,o,s⟩
 unfold World.cell? at h
 cases s with
 | none=>rfl
 | some s=>
   simp only[Option.isSome_some,if_true]at h
   split at h <;> cases h
end Go.Proofs.YtnhooehmcggmdaaGreatDoor
