/- A frame that came in as an argument, opened. -/
import Derived.Test.YtdgonhmipecjpaaBase
import Derived.Lib.SmallJoins
import Derived.Deep.Slices
import Derived.Deep.Fields
import Derived.ChangeSame
namespace Go.Proofs.Ytdgonhmipecjpaa
open Go.Joins Go.ChangeShapes Go.WideShapes Go.RowKit Go.Deep
section
variable {H : Type} {enc : TypeId × Value → H} {w : World} {n : Nat} {v : Value}
set_option maxRecDepth 100000 in
theorem open_frame {b0 : Nat} {d : DataW H} {p : List MemPlace} (hv : Value.okWide Try.prog w .any b0 24 v) (h : DataW.Trod enc Try.prog w 0 (fun _ => true) true 24 v d p) :
    ∃ (kind : UInt8) (epoch seq : Nat) (s : ByteArray), v = .agg #[.int .u8 (kind.toNat : Int), .int .u64 (epoch : Int), .int .u64 (seq : Int), .string s] ∧ epoch < 18446744073709551616 ∧ seq < 18446744073709551616 := by
  obtain ⟨v0, v1, v2, v3, y0, y1, y2, y3, n, rfl, rfl, rfl, h0, h1, h2, h3⟩ := open_agg4 Try.underlying24 (by kernel_rfl) (by kernel_rfl) hv h
  obtain ⟨z0, e0, _, wf0⟩ := DataW.trod_int Try.underlying5 h0
  obtain ⟨z1, e1, _, wf1⟩ := DataW.trod_int Try.underlying22 h1
  obtain ⟨z2, e2, _, wf2⟩ := DataW.trod_int Try.underlying22 h2
  obtain ⟨s, e3, _, _⟩ := DataW.trod_string Try.underlying9 h3
  obtain ⟨a, rfl, ha⟩ := nat_u8 wf0
  obtain ⟨b, rfl, hb⟩ := nat_u64 wf1
  obtain ⟨c, rfl, hc⟩ := nat_u64 wf2
  cases e0
  cases e1
  cases e2
  cases e3
  refine ⟨UInt8.ofNat a, b, c, s, ?_, hb, hc⟩
  rw [show (UInt8.ofNat a).toNat = a by simp; omega]
end
end Go.Proofs.Ytdgonhmipecjpaa
