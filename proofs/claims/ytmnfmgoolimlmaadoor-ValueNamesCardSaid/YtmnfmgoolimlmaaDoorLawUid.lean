/- An argument api.Uid, opened. -/
import Derived.Test.YtmnfmgoolimlmaaDoorMem
import Derived.Lib.SmallJoins
namespace Go.Proofs.YtmnfmgoolimlmaaDoor
open Go.Joins Go.ChangeShapes Go.WideShapes Go.RowKit
set_option maxRecDepth 100000 in
theorem open_uid {H : Type} {enc : TypeId × Value → H} {w : World} {v : Value} {b0 : Nat} {d : DataW H} {p : List MemPlace} (hv : Value.okWide Tryd.prog w .any b0 23 v) (h : DataW.Trod enc Tryd.prog w 0 (fun _ => true) true 23 v d p) :
    ∃ (s t : ByteArray), v = .agg #[.string s, .string t] ∧ ((∀ k ∈ d.weights Tryd.prog 23, k ≤ reachBytes) → s.size ≤ 140737488351232 ∧ t.size ≤ 140737488351232) := by
  obtain ⟨v0, v1, y0, y1, n, rfl, rfl, rfl, h0, h1⟩ := open_agg2 Tryd.underlying23 (by kernel_rfl) (by kernel_rfl) hv h
  obtain ⟨s, e0, f0, g0⟩ := DataW.trod_string Tryd.underlying9 h0
  obtain ⟨t, e1, f1, g1⟩ := DataW.trod_string Tryd.underlying9 h1
  cases e0
  cases e1
  refine ⟨s, t, rfl, fun hw => ?_⟩
  subst f0
  subst f1
  have a0 := hw s.data.toList.length (by simp [DataW.weights, DataW.weightsEach, Tryd.underlying23])
  have a1 := hw t.data.toList.length (by simp [DataW.weights, DataW.weightsEach, Tryd.underlying23])
  rw [← Lib.size_eq] at a0 a1
  exact ⟨by unfold reachBytes at a0; omega, by unfold reachBytes at a1; omega⟩
end Go.Proofs.YtmnfmgoolimlmaaDoor
