/- Parts of a proof about the given program: XKwText. -/
import Derived.Shelf.Strings.Fields
import Derived.Test.YtnhooehmcggmdaaGreatDoorZ00
namespace Go.Proofs.YtnhooehmcggmdaaGreatDoor
set_option maxHeartbeats 16000000
set_option linter.unusedVariables false
set_option linter.unusedSimpArgs false
set_option linter.unusedSectionVars false
def Zrm:List UInt8:=(Zix.intersperse [32]).flatten
set_option maxRecDepth 100000 in
theorem Zsw:Lib.fields Zrm=Zix:=by decide +kernel
set_option maxRecDepth 100000 in
theorem Zvl:∀ b ∈ Zrm,b.toNat < 128:=by decide +kernel
end Go.Proofs.YtnhooehmcggmdaaGreatDoor
