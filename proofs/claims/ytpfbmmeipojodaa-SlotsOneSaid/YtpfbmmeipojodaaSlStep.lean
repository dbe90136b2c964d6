/- Saving to two slots that lie side by side: what may come of it, in plain Lean. -/
import Derived.Test.YtpfbmmeipojodaaGM
namespace Go.Proofs.Ytpfbmmeipojodaa
open Go.RowKit
section
variable {d : Dk} {n k : Nat} {m : Img}
theorem SlOn.step (h : SlOn d n m k) {x : Img} (keep : List Bool) (he : m.ep < x.ep) (hx : x.ep < 18446744073709551616) :
    ((saveR d 0 n n n x).2 = 0 ∧ SlOn (saveR d 0 n n n x).1 n x (1 - k) ∧ SlOn (crashD (saveR d 0 n n n x).1 keep) n x (1 - k) ∧ (d.fuse = -1 → (saveR d 0 n n n x).1.fuse = -1)) ∨
    ((saveR d 0 n n n x).2 = 15 ∧ d.fuse ≠ -1 ∧ right (saveR d 0 n n n x).1 = true ∧ (SlOn (crashD (saveR d 0 n n n x).1 keep) n m k ∨ SlOn (crashD (saveR d 0 n n n x).1 keep) n x (1 - k))) ∨
    (((saveR d 0 n n n x).2 = 17 ∨ (saveR d 0 n n n x).2 = 3) ∧ (saveR d 0 n n n x).1 = d) := by
  rw [h.save he]
  by_cases hp : 16384 < x.pay.length
  · rw [if_pos hp]; exact .inr (.inr ⟨.inr rfl, rfl⟩)
  rw [if_neg hp]
  by_cases hr : n < piecesN x.pay.length + 1
  · rw [if_pos hr]; exact .inr (.inr ⟨.inl rfl, rfl⟩)
  rw [if_neg hr]
  obtain ⟨hE, hR, hC⟩ := h.power keep he hx (by omega) (by omega)
  have hfu : d.fuse = -1 → layE d ((1 - k) * n) (imgSecs x) = 0 ∧ (layD d ((1 - k) * n) (imgSecs x)).fuse = -1 := fun hf => by
    obtain ⟨a, _, b⟩ := h.calm hf he hx (by omega) (by omega)
    exact ⟨a, b⟩
  rcases hE with h0 | h15
  · refine .inl ⟨h0, h.fine he hx (by omega) (by omega) h0, ?_, fun hf => (hfu hf).2⟩
    rcases hC with ⟨h15, _⟩ | hC
    · rw [h0] at h15; exact absurd h15 (by decide)
    · exact hC
  · refine .inr (.inl ⟨h15, fun hf => ?_, hR, ?_⟩)
    · have := (hfu hf).1
      rw [h15] at this; exact absurd this (by decide)
    · rcases hC with ⟨_, hC⟩ | hC
      · exact .inl hC
      · exact .inr hC
theorem SlOn.pay (h : SlOn d n m k) : m.pay.length ≤ 16384 := by
  rcases h.lies with ⟨rfl, _⟩ | ⟨_, h2, _⟩
  · simp [img0]
  · obtain ⟨c, hf⟩ := imgOf_is h2
    exact hf.ok.pay
theorem SlOn.zero (h : SlOn d n m k) (h0 : m.ep = 0) : m = img0 ∧ k = 1 := by
  rcases h.lies with ⟨h1, h2, _⟩ | ⟨h1, _⟩
  · exact ⟨h1, h2⟩
  · omega
theorem SlOn.again (h : SlOn d n m k) (h1 : 1 ≤ m.ep) : saveR d 0 n n n m = (d, 1) := by
  have hp := h.pay
  unfold saveR
  rw [if_neg (by simp [h.check]), h.load, if_neg (by omega)]
  unfold saveOn
  rw [if_neg (by simp), if_neg (by omega), if_pos ⟨rfl, Nat.le_refl _⟩]
theorem SlOn.load1 (h : SlOn d n m k) (h1 : 1 ≤ m.ep) : loadR d 0 n n n = (m, k, 0) := by rw [h.load, if_neg (by omega)]
theorem SlOn.load0 (h : SlOn d n m k) (h0 : m.ep = 0) : loadR d 0 n n n = (⟨0, []⟩, 0, 9) := by rw [h.load, if_pos h0]; rfl
/-- What is loaded: the image itself, and whether there is one. -/
theorem SlOn.loads (h : SlOn d n m k) : ∃ (j : Nat) (E : Int), loadR d 0 n n n = (m, j, E) ∧ ((m.ep = 0 ∧ E = 9) ∨ (1 ≤ m.ep ∧ E = 0 ∧ j = k)) := by
  rcases Nat.eq_zero_or_pos m.ep with h0 | h1
  · refine ⟨0, 9, ?_, .inl ⟨h0, rfl⟩⟩
    rw [h.load, if_pos h0, (h.zero h0).1]
  · exact ⟨k, 0, h.load1 h1, .inr ⟨h1, rfl, rfl⟩⟩
end
end Go.Proofs.Ytpfbmmeipojodaa
