/- slices.ContainsFunc, slices.Clone, value.own at numbers. -/
import Derived.Test.YtmnfmgoolimlmaaDoorVSort
import Derived.Test.YtmnfmgoolimlmaaDoorVSize1
import Derived.Test.YtmnfmgoolimlmaaDoorShelf
import Derived.Test.YtmnfmgoolimlmaaDoorFlat
namespace Go.Proofs.YtmnfmgoolimlmaaDoor
set_option linter.unusedSimpArgs false
set_option linter.unusedVariables false
open Go.RowKit
/-- Rows of numbers, cell by cell. -/
def longCells (l : List Int) : List Value := (l.map longRow).flatten
theorem longCells_len (l : List Int) : (longCells l).length = l.length * 7 := by
  induction l with
  | nil => rfl
  | cons x l ih =>
    have e : longCells (x :: l) = longRow x ++ longCells l := rfl
    rw [e, List.length_append, ih, List.length_cons]
    simp only [show (longRow x).length = 7 from rfl]
    omega
theorem longCells_at (l : List Int) : ∀ (k i : Nat) (x : Int) (v : Value), l[k]? = some x → (longRow x)[i]? = some v → (longCells l)[k * 7 + i]? = some v := by
  induction l with
  | nil => intro k i x v h; cases h
  | cons y l ih =>
    intro k i x v h hv
    have e : longCells (y :: l) = longRow y ++ longCells l := rfl
    rw [e]
    have hi : i < 7 := (List.getElem?_eq_some_iff.1 hv).1
    cases k with
    | zero =>
      simp only [List.getElem?_cons_zero, Option.some.injEq] at h
      subst h
      rw [Nat.zero_mul, Nat.zero_add, List.getElem?_append_left (by show i < 7; exact hi)]
      exact hv
    | succ k =>
      rw [List.getElem?_cons_succ] at h
      rw [List.getElem?_append_right (by show 7 ≤ _; omega), show (k + 1) * 7 + i - (longRow y).length = k * 7 + i from by show (k + 1) * 7 + i - 7 = _; omega]
      exact ih k i x v h hv
theorem longCells_one (l : List Int) : ∀ v ∈ longCells l, v.oneCell' = true := by
  intro v hv
  simp only [longCells, List.mem_flatten, List.mem_map] at hv
  obtain ⟨r, ⟨x, _, rfl⟩, hr⟩ := hv
  exact longRow_one x v hr
theorem hasLong_w (l : List Int) (b c : Nat) (w : World) (hl : l.length ≤ 140737488351232) (hb : b < w.heap.size) (hc : ∀ j v, (longCells l)[j]? = some v → w.cell? ⟨b, j, none⟩ = some v) :
    Calls Tryd.prog 37 #[.slice (some ⟨b, 0, none⟩) l.length c, .func (.func 38) #[] #[]] w fun e w' => e = .returned (.bool false) ∧ Below w.heap.size w w' := by
  have h := AnyQ.slices_ContainsFunc Tryd.laysHas 7 aggV sizeV longRow (fun _ => rfl) (fun _ => false) 38 #[] (fun _ _ => by kernel_rfl) b 0 l.length c l w
    (fun W x hW => (setBad_w x W).mono fun e w2 h => ⟨h.1, bt hW h.2⟩) (Nat.le_refl _) (by omega) hb (fun j hj i v hv => by
      rw [Nat.zero_add]
      refine hc _ _ (longCells_at l j i l[j]! v ?_ hv)
      rw [getElem!_pos l j hj]
      exact List.getElem?_eq_getElem hj)
  refine h.mono ?_
  rintro e w' ⟨rfl, hb⟩
  exact ⟨by simp, hb⟩
theorem Tryd.infoV : (Tryd.prog.info? 37).map (fun i => (i.zero, i.size, i.bytes)) = some (some (.agg #[.int .u8 0, .bool false, .int .i64 0, .string ⟨#[]⟩, .string ⟨#[]⟩, .slice none 0 0, .slice none 0 0]), 7, 96) := by kernel_rfl
theorem cloneV_w (b c : Nat) (n : Nat) (xs : List Value) (w : World) (hx : xs.length = n * 7) (hn : n * 96 ≤ 140737488351232) (hc : ∀ j v, xs[j]? = some v → w.cell? ⟨b, j, none⟩ = some v) (h1 : ∀ v ∈ xs, v.oneCell' = true) :
    Calls Tryd.prog 63 #[.slice (some ⟨b, 0, none⟩) n c] w fun e w' => ∃ v, e = .returned v ∧ w'.ownsRow w.heap.size 37 7 v n xs ∧ v ≠ .slice none 0 0 ∧ Below w.heap.size w w' := by
  obtain ⟨i0, hi, hz0, hz1, hz2⟩ := info_parts Tryd.infoV
  exact AnyE.slices_Clone Tryd.laysCloneV i0 _ 7 96 hi hz0 hz1 hz2 rfl (by omega) sizeV b 0 n c xs w hx (by simp only [maxLen]; omega) (by omega) (fun j u hu => by rw [Nat.zero_add]; exact hc j u hu) h1
theorem cloneVnil_w (n c : Nat) (w : World) :
    Calls Tryd.prog 63 #[.slice none n c] w fun e w' => e = .returned (.slice none 0 0) ∧ w' = w := AnyE.slices_Clone_nil Tryd.laysCloneV n c w
set_option maxRecDepth 100000 in
set_option maxHeartbeats 1000000 in
theorem ownNil_w (w : World) :
    Calls Tryd.prog 39 #[.slice none 0 0] w fun e w' => e = .returned (.slice none 0 0) ∧ w' = w := by
  have hn := cloneVnil_w 0 0
  go_enter Tryd.func39, Tryd.ntmps39
  go_wp2_with fail
  refine (hn _).mono ?_
  rintro e w1 ⟨rfl, rfl⟩
  go_wp2_with (first | (at_builtin; fail))
  go_loopw [8] (fun i wr => i = .int .i64 0 ∧ wr = w1) (fun _ _ => 0)
  case atStart => exact ⟨rfl, rfl⟩
  case round =>
    obtain ⟨rfl, rfl⟩ := hrel
    go_wp2_with (first | (at_builtin; fail))
    go_ret
    exact ⟨rfl, rfl⟩
end Go.Proofs.YtmnfmgoolimlmaaDoor
