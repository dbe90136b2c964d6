/- A row of frames of ones own, beside a disk. -/
import Derived.Test.YtdgonhmipecjpaaRoom
import Derived.Test.YtdgonhmipecjpaaGI
import Derived.Test.YtdgonhmipecjpaaWalScan
import Derived.Test.YtdgonhmipecjpaaGJ
namespace Go.Proofs.Ytdgonhmipecjpaa
open Go.RowKit
theorem Texts.stays {w w' : World} {A : Option Addr} {l : List ByteArray} (h : Texts w A l) (h64 : ∀ x ∈ l, x.size = 64) (hs : Stays w w') : Texts w' A l := by
  refine ⟨h.1, fun hne => ?_⟩
  obtain ⟨b, o, e, hc⟩ := h.2 hne
  refine ⟨b, o, e, fun j u hu => ?_⟩
  obtain ⟨x, hx, rfl⟩ : ∃ x ∈ l, Value.string x = u := by
    have := List.mem_of_getElem? hu
    simpa [strs] using this
  exact hs _ _ (hc j _ hu) (by rw [h64 x hx]; decide)
theorem right_texts {d : Dk} (h : right d = true) : ∀ x ∈ d.secs, x.size = 64 := (right_iff.1 h).2.2.1
theorem Box.stays {w w' : World} {N : Nat} {A1 A2 : Option Addr} {c1 c2 : Nat} {d : Dk} {base n : Nat} {v : Value} {xs : List Value} (h : Box w N A1 c1 A2 c2 d) (hr : right d = true) (hp : d.pend = []) (ho : Row0 w base 24 4 v n xs) (hg : w.grownBy w' v.ownBlock) (hs : Stays w w') : Box w' N A1 c1 A2 c2 d := by
  refine ⟨blk_grown h.blk ho.1 hg (by decide), h.tx.stays (right_texts hr) hs, ?_, h.l1, h.l2, h.f1, h.f2⟩
  have hw := h.wr
  rw [hp] at hw ⊢
  exact ⟨hw.1, fun hn => absurd rfl hn⟩
theorem Row0.far4 {w : World} {base : Nat} {n N : Nat} {v : Value} {xs l : List Value} (h : Row0 w base 24 4 v n xs) (hN : Blk w N l 49) (a b c d : Value) : Row0 (set4 w N a b c d) base 24 4 v n xs := by
  have hne := own_blk_ne h.1 hN (by decide)
  exact (((h.far (p := ⟨N, 0, none⟩) hne a).far (p := ⟨N, 1, none⟩) hne b).far (p := ⟨N, 2, none⟩) hne c).far (p := ⟨N, 3, none⟩) hne d
theorem Row0.far3 {w : World} {base : Nat} {n N : Nat} {v : Value} {xs l : List Value} (h : Row0 w base 24 4 v n xs) (hN : Blk w N l 49) (d : Value) : Row0 (w.setCell ⟨N, 3, none⟩ d) base 24 4 v n xs :=
  h.far (p := ⟨N, 3, none⟩) (own_blk_ne h.1 hN (by decide)) d
/-- What appending one more frame to a log comes to, whatever the fuse. -/
theorem LogOn.step {d : Dk} {n b ep : Nat} {want : List Fr} (h : LogOn d n ep want b) (p : ByteArray) (keep : List Bool) (hep : ep < 18446744073709551616) (hw : want.length < 18446744073709551616) :
    (∃ q : Nat, appE d 0 n b ⟨1, ep, want.length, p.data.toList⟩ = 0 ∧ appN d 0 n b ⟨1, ep, want.length, p.data.toList⟩ = (q : Int) ∧ LogOn (appD d 0 n b ⟨1, ep, want.length, p.data.toList⟩) n ep (want ++ [⟨1, ep, want.length, p.data.toList⟩]) q) ∨
    (appE d 0 n b ⟨1, ep, want.length, p.data.toList⟩ = 15 ∧ appN d 0 n b ⟨1, ep, want.length, p.data.toList⟩ = 0 ∧ d.fuse ≠ -1 ∧ ∃ (W : List Fr) (q : Nat), (W = want ∨ W = want ++ [⟨1, ep, want.length, p.data.toList⟩]) ∧ LogOn (crashD (appD d 0 n b ⟨1, ep, want.length, p.data.toList⟩) keep) n ep W q) ∨
    ((appE d 0 n b ⟨1, ep, want.length, p.data.toList⟩ = 16 ∨ appE d 0 n b ⟨1, ep, want.length, p.data.toList⟩ = 3) ∧ appD d 0 n b ⟨1, ep, want.length, p.data.toList⟩ = d ∧ appN d 0 n b ⟨1, ep, want.length, p.data.toList⟩ = 0) := by
  by_cases hp : 16384 < p.data.toList.length
  · have hc : frCheck ⟨1, ep, want.length, p.data.toList⟩ = 3 := by
      rw [frCheck, if_neg (show ¬ (1 : UInt8) = 0 by decide), if_pos hp]
    obtain ⟨h1, h2, h3⟩ := h.appNo (fr := ⟨1, ep, want.length, p.data.toList⟩) (.inl ⟨by rw [hc]; decide, hc⟩)
    exact .inr (.inr ⟨.inr h3, h1, h2⟩)
  · have hc : frCheck ⟨1, ep, want.length, p.data.toList⟩ = 0 := by
      rw [frCheck, if_neg (show ¬ (1 : UInt8) = 0 by decide), if_neg hp]
    have ok : FrOk ⟨1, ep, want.length, p.data.toList⟩ := ⟨(show (1 : UInt8) ≠ 0 by decide), by show p.data.toList.length ≤ 16384; omega, hep, hw⟩
    rcases Nat.lt_or_ge n (b + (piecesN p.data.toList.length + 1)) with hroom | hroom
    · obtain ⟨h1, h2, h3⟩ := h.appNo (fr := ⟨1, ep, want.length, p.data.toList⟩) (.inr ⟨hc, hroom, rfl⟩)
      exact .inr (.inr ⟨.inl h3, h1, h2⟩)
    · obtain ⟨h1, h2, h3, h4⟩ := h.appYes (fr := ⟨1, ep, want.length, p.data.toList⟩) hc hroom
      obtain ⟨g1, _, g3⟩ := h.power (fr := ⟨1, ep, want.length, p.data.toList⟩) keep ok rfl rfl hroom
      rcases g1 with g1 | g1
      · exact .inl ⟨_, by rw [h2, g1], h3 g1, by rw [h1]; exact h.fine (fr := ⟨1, ep, want.length, p.data.toList⟩) ok rfl rfl hroom g1⟩
      · refine .inr (.inl ⟨by rw [h2, g1], h4 (by rw [g1]; decide), fun hf => (calm_run _ d h.on hf).1 g1, ?_⟩)
        rw [h1]
        rcases g3 with g3 | g3
        · exact ⟨_, _, .inl rfl, g3⟩
        · exact ⟨_, _, .inr rfl, g3⟩
end Go.Proofs.Ytdgonhmipecjpaa
