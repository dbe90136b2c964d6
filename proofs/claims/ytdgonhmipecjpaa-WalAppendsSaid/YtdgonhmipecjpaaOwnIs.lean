/- A copy of one's own is a disk. -/
import Derived.Test.YtdgonhmipecjpaaGI
namespace Go.Proofs.Ytdgonhmipecjpaa
open Go.RowKit
theorem ownDk_is {w : World} {base : Nat} {v : Value} {d : Dk} (h : OwnDk w base v d) : DkIs w v d := by
  obtain ⟨sv, pv, rfl, o1, o2, l1, l2, f1, f2⟩ := h
  obtain ⟨A1, c1, rfl, _, _, t1, _⟩ := Lies.of_own o1
  obtain ⟨A2, c2, rfl, _, _, t2, _⟩ := Lies.of_own o2
  exact ⟨_, _, _, _, rfl, t1, t2, l1, l2, f1, f2⟩
end Go.Proofs.Ytdgonhmipecjpaa
