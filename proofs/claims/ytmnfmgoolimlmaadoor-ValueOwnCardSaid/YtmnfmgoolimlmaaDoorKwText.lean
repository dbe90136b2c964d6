/- The words' text, cut. -/
import Derived.Test.YtmnfmgoolimlmaaDoorNames
import Derived.Shelf.Strings.Fields
namespace Go.Proofs.YtmnfmgoolimlmaaDoor
def kwText : List UInt8 := (kwords.intersperse [32]).flatten
set_option maxRecDepth 100000 in
theorem kwText_fields : Lib.fields kwText = kwords := by decide +kernel
set_option maxRecDepth 100000 in
theorem kwText_ascii : ∀ b ∈ kwText, b.toNat < 128 := by decide +kernel
end Go.Proofs.YtmnfmgoolimlmaaDoor
