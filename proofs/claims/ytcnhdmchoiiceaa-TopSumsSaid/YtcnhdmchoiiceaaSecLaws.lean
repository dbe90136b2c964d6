/- The plain laws of chapter 02: what crashes, reads, puts and syncs come to. -/
import Derived.Test.YtcnhdmchoiiceaaSecEnd
import Derived.Test.YtcnhdmchoiiceaaRefHolds
namespace Go.Proofs.Ytcnhdmchoiiceaa
open Go.RowKit
/-- What a right disk is. -/
theorem right_iff {d : Dk} : right d = true ↔ (1 ≤ d.secs.length ∧ d.secs.length ≤ 1024) ∧ d.pend.length ≤ 4096 ∧ (∀ s ∈ d.secs, s.size = 64) ∧ ∀ x ∈ d.pend, 0 ≤ x.sec ∧ x.sec < d.secs.length ∧ x.data.size = 64 := by
  simp only [right, sizeOk, Bool.and_eq_true, decide_eq_true_eq, List.any_eq_false, odd, wrongW, there, bne_iff_ne, ne_eq, Classical.not_not, Bool.or_eq_true, Bool.not_eq_eq_eq_not, Bool.not_true, Bool.and_eq_false_iff, decide_eq_false_iff_not]
  constructor
  · rintro ⟨⟨⟨h1, h2⟩, h3⟩, h4⟩
    refine ⟨h1, h2, h3, fun x hx => ?_⟩
    have := h4 x hx
    omega
  · rintro ⟨h1, h2, h3, h4⟩
    refine ⟨⟨⟨h1, h2⟩, h3⟩, fun x hx => ?_⟩
    have := h4 x hx
    omega
theorem stl_sizes (may : Nat → Bool) (k : Nat) (l : List Wr) (s : List ByteArray) (hs : ∀ x ∈ s, x.size = 64) (hl : ∀ x ∈ l, x.data.size = 64) : ∀ x ∈ stl may k l s, x.size = 64 := by
  induction l generalizing k s with
  | nil => exact hs
  | cons x l ih =>
    rw [stl]
    refine ih _ _ ?_ (fun y hy => hl y (by simp [hy]))
    split
    · intro y hy
      rcases List.mem_or_eq_of_mem_set hy with h | rfl
      · exact hs y h
      · exact hl x (by simp)
    · exact hs
theorem getD_set (s : List ByteArray) (i j : Nat) (v e : ByteArray) (hj : j < s.length) : (s.set i v).getD j e = if i = j then v else s.getD j e := by
  simp only [List.getD, List.getElem?_set]
  by_cases h : i = j
  · subst h; simp [hj]
  · simp [h]
/-- A sector holds what it held, or one of the writes. -/
theorem stl_may (may : Nat → Bool) (k : Nat) (l : List Wr) (s : List ByteArray) (j : Nat) (hj : j < s.length) (hl : ∀ x ∈ l, 0 ≤ x.sec) :
    (stl may k l s).getD j ⟨#[]⟩ = s.getD j ⟨#[]⟩ ∨ ∃ x ∈ l, x.sec = j ∧ x.data = (stl may k l s).getD j ⟨#[]⟩ := by
  induction l generalizing k s with
  | nil => exact .inl rfl
  | cons x l ih =>
    rw [stl]
    have hx := hl x (by simp)
    split
    · rcases ih (k + 1) (s.set x.sec.toNat x.data) (by simpa using hj) (fun y hy => hl y (by simp [hy])) with h | ⟨y, hy, h⟩
      · rw [getD_set _ _ _ _ _ hj] at h
        split at h
        · exact .inr ⟨x, by simp, by omega, h.symm⟩
        · exact .inl h
      · exact .inr ⟨y, by simp [hy], h⟩
    · rcases ih (k + 1) s hj (fun y hy => hl y (by simp [hy])) with h | ⟨y, hy, h⟩
      · exact .inl h
      · exact .inr ⟨y, by simp [hy], h⟩
theorem holdF_cons (n : Int) (x : Wr) (l : List Wr) (s : ByteArray) : holdF n (x :: l) s = holdF n l (if x.sec = n then x.data else s) := rfl
/-- All done: a sector holds what it was read as. -/
theorem stl_all (may : Nat → Bool) (k : Nat) (l : List Wr) (s : List ByteArray) (j : Nat) (hj : j < s.length) (hl : ∀ x ∈ l, 0 ≤ x.sec) (hm : ∀ i, k ≤ i → i < k + l.length → may i = true) :
    (stl may k l s).getD j ⟨#[]⟩ = holdF j l (s.getD j ⟨#[]⟩) := by
  induction l generalizing k s with
  | nil => rfl
  | cons x l ih =>
    have hx := hl x (by simp)
    rw [stl, if_pos (hm k (Nat.le_refl _) (by simp)), ih (k + 1) (s.set x.sec.toNat x.data) (by simpa using hj) (fun y hy => hl y (by simp [hy])) (fun i h1 h2 => hm i (by omega) (by simp at h2 ⊢; omega)), holdF_cons, getD_set _ _ _ _ _ hj]
    by_cases h : x.sec = j
    · rw [if_pos (by omega), if_pos h]
    · rw [if_neg (by omega), if_neg h]
theorem right_crash {d : Dk} {keep : List Bool} (hr : right d = true) : right (crashD d keep) = true := by
  have h := right_iff.1 hr
  rw [right_iff]
  simp only [crashD, hr, if_true, stl_length, List.length_nil, Nat.zero_le, true_and]
  exact ⟨h.1, stl_sizes _ _ _ _ h.2.2.1 (fun x hx => (h.2.2.2 x hx).2.2), by simp⟩
theorem there_of {secs : List ByteArray} {m : Nat} (h : m < secs.length) : there secs (m : Int) = true := by simp [there, h]
/-- A crashed disk, read. -/
theorem read_crash {d : Dk} {keep : List Bool} {m : Nat} (hr : right d = true) (hm : m < d.secs.length) :
    readE (crashD d keep) m = 0 ∧ readS (crashD d keep) m = (stl (mayOf keep) 0 d.pend d.secs).getD m ⟨#[]⟩ := by
  have hc := right_crash (keep := keep) hr
  have h1 : readE (crashD d keep) m = 0 := by
    unfold readE
    rw [if_neg (by simp [hc])]
    simp only [crashD, hr, if_true]
    rw [there_of (by rw [stl_length]; exact hm)]
    simp
  refine ⟨h1, ?_⟩
  unfold readS
  rw [if_pos h1, show crashD d keep = ⟨stl (mayOf keep) 0 d.pend d.secs, [], false, -1⟩ by simp [crashD, hr]]
  rfl
theorem read_crash_no {d : Dk} {keep : List Bool} {n : Int} (hr : right d = true) (hn : there d.secs n = false) : readE (crashD d keep) n = 1 := by
  have hc := right_crash (keep := keep) hr
  unfold readE
  rw [if_neg (by simp [hc])]
  simp only [crashD, hr, if_true]
  rw [show there (stl (mayOf keep) 0 d.pend d.secs) n = false by simpa [there, stl_length] using hn]
  simp
theorem right_on {d : Dk} (hr : right d = true) : right { d with off := false } = true := hr
theorem read_on {d : Dk} {m : Nat} (hr : right d = true) (hm : m < d.secs.length) : readE { d with off := false } m = 0 ∧ readS { d with off := false } m = holdF m d.pend (d.secs.getD m ⟨#[]⟩) := by
  have h1 : readE { d with off := false } m = 0 := by
    unfold readE
    rw [if_neg (by rw [right_on hr]; simp)]
    simp [there_of hm]
  refine ⟨h1, ?_⟩
  simp only [readS, h1, if_true]
  exact holdsOf_eq _ _
theorem mayOf_all {n k : Nat} (h : k < n) : mayOf (List.replicate n true) k = true := by simp [mayOf, List.getD, h]
/-- Kept all, a sector holds what it held. -/
theorem read_kept {d : Dk} {m : Nat} (hr : right d = true) (hm : m < d.secs.length) : readS (crashD d (List.replicate d.pend.length true)) m = readS { d with off := false } m := by
  rw [(read_crash hr hm).2, (read_on hr hm).2]
  exact stl_all _ _ _ _ _ hm (fun x hx => ((right_iff.1 hr).2.2.2 x hx).1) (fun i _ h => mayOf_all (by omega))
/-- Behind a crash a sector holds what was synced, or one of the writes since. -/
theorem read_safe {d : Dk} {keep : List Bool} {m : Nat} (hr : right d = true) (hm : m < d.secs.length) :
    readS (crashD d keep) m = d.secs[m] ∨ ∃ x ∈ d.pend, x.sec = m ∧ x.data = readS (crashD d keep) m := by
  rw [(read_crash hr hm).2]
  have := stl_may (mayOf keep) 0 d.pend d.secs m hm (fun x hx => ((right_iff.1 hr).2.2.2 x hx).1)
  rwa [show d.secs.getD m ⟨#[]⟩ = d.secs[m] by simp [List.getD, hm]] at this
theorem crash_again {d : Dk} {keep again : List Bool} (hr : right d = true) : crashD (crashD d keep) again = crashD d keep := by
  have hc := right_crash (keep := keep) hr
  unfold crashD at hc ⊢
  rw [if_pos hr] at hc ⊢
  rw [if_pos hc]
  rfl
end Go.Proofs.Ytcnhdmchoiiceaa
