/- The document's loops over the writes that wait: what holds round by round. -/
import Derived.Test.YtdgonhmipecjpaaGI
namespace Go.Proofs.Ytdgonhmipecjpaa
open Go.RowKit
/-- k writes looked at, s is what the sectors are by then. -/
def Rest (may : Nat → Bool) (k : Nat) (P : List Wr) (S s : List ByteArray) : Prop := s.length = S.length ∧ stl may k (P.drop k) s = stl may 0 P S
section
variable {may : Nat → Bool} {k : Nat} {P : List Wr} {S s : List ByteArray}
theorem Rest.start (may : Nat → Bool) (P : List Wr) (S : List ByteArray) : Rest may 0 P S S := ⟨rfl, rfl⟩
theorem Rest.yes (h : Rest may k P S s) (hk : k < P.length) (hm : may k = true) : Rest may (k + 1) P S (s.set P[k].sec.toNat P[k].data) := by
  obtain ⟨h1, h2⟩ := h
  rw [drop_cons_l _ _ hk, stl, if_pos hm] at h2
  exact ⟨by simpa using h1, h2⟩
theorem Rest.no (h : Rest may k P S s) (hk : k < P.length) (hm : may k = false) : Rest may (k + 1) P S s := by
  obtain ⟨h1, h2⟩ := h
  rw [drop_cons_l _ _ hk, stl, if_neg (by simp [hm])] at h2
  exact ⟨h1, h2⟩
theorem Rest.done (h : Rest may P.length P S s) : s = stl may 0 P S := by
  have := h.2
  rw [List.drop_length] at this
  exact this
end
/-- The world between two rounds. -/
structure Settles (wr w : World) (N M : Nat) (B1 : Option Addr) (e1 : Nat) (B2 : Option Addr) (e2 : Nat) (off : Bool) (f : Int) (S : List ByteArray) (P : List Wr) (s : List ByteArray) : Prop where
  box : Blk wr N [.slice B1 S.length e1, .slice B2 P.length e2, .bool off, .int .i64 f] 49
  ans : Blk wr (N + 1) [.slice none 0 0, .slice none 0 0, .bool false, .int .i64 0] 49
  own1 : wr.ownsRow M 9 1 (.slice B1 S.length e1) S.length (strs s)
  own2 : wr.ownsRow M 103 2 (.slice B2 P.length e2) P.length (wrs P)
  low : Below N w wr
  far : N + 1 < M
  room : M ≤ wr.heap.size
section
variable {wr w : World} {N M : Nat} {B1 B2 : Option Addr} {e1 e2 : Nat} {off : Bool} {f : Int} {S s : List ByteArray} {P : List Wr}
theorem Settles.start (h1 : Blk wr N [.slice B1 S.length e1, .slice B2 P.length e2, .bool off, .int .i64 f] 49) (h2 : Blk wr (N + 1) [.slice none 0 0, .slice none 0 0, .bool false, .int .i64 0] 49)
    (ho : Own2 wr M B1 e1 B2 e2 S P) (hb : Below N w wr) (hf : N + 1 < M) (hr : M ≤ wr.heap.size) : Settles wr w N M B1 e1 B2 e2 off f S P S := ⟨h1, h2, ho.own1, ho.own2, hb, hf, hr⟩
theorem Settles.alloc (h : Settles wr w N M B1 e1 B2 e2 off f S P s) (o : Obj) : Settles (wr.alloc o) w N M B1 e1 B2 e2 off f S P s :=
  ⟨h.box.alloc o, h.ans.alloc o, h.own1.alloc o, h.own2.alloc o, h.low.alloc (by have := h.far; have := h.room; omega) o, h.far, by have := h.room; simp; omega⟩
/-- What a round loads. -/
theorem Settles.loads (h : Settles wr w N M B1 e1 B2 e2 off f S P s) {k : Nat} (hin : ∀ x ∈ P, there S x.sec = true) (hk : k < P.length) :
    ∃ b o, ∃ j : Nat, B2 = some ⟨b, o, none⟩ ∧ P[k].sec = (j : Int) ∧ j < S.length ∧ (j : Int) < (S.length : Int) ∧ wr.cell? ⟨b, o + k * 2, none⟩ = some (.int .i64 (j : Int)) ∧ wr.cell? ⟨b, o + k * 2 + 1, none⟩ = some (.string P[k].data) := by
  obtain ⟨A, c, x, _, _, t, _⟩ := Lies.of_own h.own2
  cases x
  obtain ⟨b, o, rfl, c1, c2⟩ := Writes.at_ t hk
  obtain ⟨j, hj, hjl⟩ := there_nat (hin _ (List.getElem_mem hk))
  rw [hj] at c1
  exact ⟨b, o, j, rfl, hj, hjl, by omega, c1, c2⟩
/-- What a round stores. -/
theorem Settles.stores (h : Settles wr w N M B1 e1 B2 e2 off f S P s) (hs : s.length = S.length) {j : Nat} (hj : j < S.length) (x : ByteArray) :
    ∃ G, B1 = some ⟨G, 0, none⟩ ∧ wr.cell? ⟨G, j, none⟩ = some (.string (s.getD j ⟨#[]⟩)) ∧ wr.frozen? ⟨G, j, none⟩ = false ∧ Settles (wr.setCell ⟨G, j, none⟩ (.string x)) w N M B1 e1 B2 e2 off f S P (s.set j x) := by
  obtain ⟨G, cap, e, hG, _⟩ := h.own1.form (by omega)
  cases e
  have n1 := own_blk_ne h.own1 h.box (by decide)
  have n2 := own_blk_ne h.own1 h.ans (by decide)
  have hGN : N ≠ G := fun e => n1 (by rw [e]; rfl)
  have hGN2 : N + 1 ≠ G := fun e => n2 (by rw [e]; rfl)
  have n3 : (Value.slice B2 P.length e2).ownBlock ≠ some G := by
    rcases own_ne h.own1 h.own2 (by decide) with e | e
    · cases e
    · exact Ne.symm e
  have s3 := (h.own1.stored j (.string x)).1
  rw [← strs_set] at s3
  refine ⟨G, rfl, ?_, h.own1.frozenAt j, ⟨h.box.far (p := ⟨G, j, none⟩) hGN _, h.ans.far (p := ⟨G, j, none⟩) hGN2 _, s3, own_far h.own2 (p := ⟨G, j, none⟩) n3 _, h.low.setCell (p := ⟨G, j, none⟩) (by have := h.far; simp only; omega) _, h.far, by simpa using h.room⟩⟩
  rw [h.own1.cellAt j (by omega)]
  simp [strs, show j < s.length by omega]
/-- Behind the last round: the answer. -/
theorem Settles.answer (h : Settles wr w N M B1 e1 B2 e2 off f S P s) (hs : s.length = S.length) (u : Bool) (g : Int) (hl1 : S.length ≤ 140737488351232) (hf1 : -9223372036854775808 ≤ g) (hf2 : g ≤ 9223372036854775807) (a b c d : Value) :
    DkIs (set4 wr (N + 1) a b c d) (.agg #[.slice B1 S.length e1, .slice none 0 0, .bool u, .int .i64 g]) ⟨s, [], u, g⟩ ∧ Below N w (set4 wr (N + 1) a b c d) := by
  refine ⟨?_, below4 h.low (by omega) a b c d⟩
  obtain ⟨A1, c1, x1, _, _, t1, _⟩ := Lies.of_own (own_far4 h.own1 (own_blk_ne h.own1 h.ans (by decide)) a b c d)
  cases x1
  refine ⟨B1, e1, none, 0, ?_, ?_, Lies.nil _ _ _, by simp only; omega, by simp, hf1, hf2⟩
  · simp only [hs]; rfl
  · unfold Texts; rw [hs]; exact t1
theorem Settles.set1 (h : Settles wr w N M B1 e1 B2 e2 off f S P s) (hs : s.length = S.length) (u : Bool) (g : Int) (hl1 : S.length ≤ 140737488351232) (hf1 : -9223372036854775808 ≤ g) (hf2 : g ≤ 9223372036854775807) (v a b c d : Value) :
    DkIs (set4 (wr.setCell ⟨N, 1, none⟩ v) (N + 1) a b c d) (.agg #[.slice B1 S.length e1, .slice none 0 0, .bool u, .int .i64 g]) ⟨s, [], u, g⟩ ∧ Below N w (set4 (wr.setCell ⟨N, 1, none⟩ v) (N + 1) a b c d) := by
  have h1 := own_far h.own1 (p := ⟨N, 1, none⟩) (own_blk_ne h.own1 h.box (by decide)) v
  have h2 := h.ans.far (p := ⟨N, 1, none⟩) (by simp) v
  refine ⟨?_, below4 (h.low.setCell (p := ⟨N, 1, none⟩) (Nat.le_refl _) v) (by omega) a b c d⟩
  obtain ⟨A1, c1, x1, _, _, t1, _⟩ := Lies.of_own (own_far4 h1 (own_blk_ne h1 h2 (by decide)) a b c d)
  cases x1
  refine ⟨B1, e1, none, 0, ?_, ?_, Lies.nil _ _ _, by simp only; omega, by simp, hf1, hf2⟩
  · simp only [hs]; rfl
  · unfold Texts; rw [hs]; exact t1
end
end Go.Proofs.Ytdgonhmipecjpaa
