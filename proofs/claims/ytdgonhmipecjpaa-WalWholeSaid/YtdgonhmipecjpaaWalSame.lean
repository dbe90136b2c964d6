/- The document's Same of chapter 04: one list twice. -/
import Derived.Test.YtdgonhmipecjpaaGI
namespace Go.Proofs.Ytdgonhmipecjpaa
set_option linter.unusedSimpArgs false
set_option linter.unusedVariables false
open Go.RowKit Go.Shelf
theorem frs_get (l : List Fr) (k : Nat) (h : k < l.length) : (frs l)[k * 4]? = some (.int .u8 (l[k].kind.toNat : Int)) ∧ (frs l)[k * 4 + 1]? = some (.int .u64 (l[k].epoch : Int)) ∧ (frs l)[k * 4 + 2]? = some (.int .u64 (l[k].seq : Int)) ∧ (frs l)[k * 4 + 3]? = some (.string (str l[k].pay)) := by
  induction l generalizing k with
  | nil => simp at h
  | cons f l ih =>
    have e : frs (f :: l) = frCells f ++ frs l := by simp [frs]
    have hc : (frCells f).length = 4 := rfl
    rw [e]
    cases k with
    | zero => exact ⟨rfl, rfl, rfl, rfl⟩
    | succ k =>
      have := ih k (by simpa using h)
      have g : ∀ i, (frCells f ++ frs l)[(k + 1) * 4 + i]? = (frs l)[k * 4 + i]? := fun i => by
        rw [List.getElem?_append_right (by rw [hc]; omega), hc]
        congr 1
        omega
      have g0 := g 0
      rw [Nat.add_zero, Nat.add_zero] at g0
      rw [g0, g 1, g 2, g 3]
      exact this
theorem Frames.at_ {w : World} {A : Option Addr} {l : List Fr} (h : Frames w A l) {k : Nat} (hk : k < l.length) : ∃ b o, A = some ⟨b, o, none⟩ ∧ w.cell? ⟨b, o + k * 4, none⟩ = some (.int .u8 (l[k].kind.toNat : Int)) ∧ w.cell? ⟨b, o + k * 4 + 1, none⟩ = some (.int .u64 (l[k].epoch : Int)) ∧ w.cell? ⟨b, o + k * 4 + 2, none⟩ = some (.int .u64 (l[k].seq : Int)) ∧ w.cell? ⟨b, o + k * 4 + 3, none⟩ = some (.string (str l[k].pay)) := by
  obtain ⟨g0, g1, g2, g3⟩ := frs_get l k hk
  obtain ⟨b, o, e, hc⟩ := h.2 (by intro h0; rw [h0] at g0; simp at g0)
  exact ⟨b, o, e, hc _ _ g0, hc _ _ g1, hc _ _ g2, hc _ _ g3⟩
set_option maxHeartbeats 4000000 in
set_option maxRecDepth 100000 in
theorem refSame4_w (A B : Option Addr) (a c : Nat) (l : List Fr) (w : World) (h1 : Frames w A l) (h2 : Frames w B l) (hl : l.length ≤ 100000) :
    Calls Try.prog 34 #[.slice A l.length a, .slice B l.length c] w fun e w' => e = .returned (.bool true) ∧ Below w.heap.size w w' := by
  go_enter Try.func34, Try.ntmps34
  go_wp2
  go_loopw [13] (fun i wr => ∃ k : Nat, k ≤ l.length ∧ i = .int .i64 k ∧ Below w.heap.size w wr) (fun i _ => l.length - (intOf i).toNat)
  case atStart => exact ⟨0, by omega, rfl, Below.refl _ _⟩
  case round =>
    obtain ⟨k, hk, rfl, hb⟩ := hrel
    by_cases hlt : k < l.length
    · obtain ⟨b1, o1, rfl, b1c⟩ := Frames.at_ (Frames.below h1 hb) hlt
      obtain ⟨b2, o2, rfl, b2c⟩ := Frames.at_ (Frames.below h2 hb) hlt
      obtain ⟨x, Hx⟩ := named l[k]
      rw [← Hx.out] at b1c b2c
      clear h1 h2
      have hk0 : (0 : Int) ≤ (k : Int) := by omega
      have hk1 : (k : Int) < (l.length : Int) := by omega
      go_wp2_with fail
      refine region_flat _ (fun u => Below wr.heap.size wr u) (fun u u' => Below u.heap.size u u')
        (rel [fun v _ => v = .slice (some ⟨b1, o1, none⟩) l.length a,
          fun v _ => v = .int .i64 (k : Int),
          fun v _ => v = .pointer (some ⟨b1, o1 + k * 4, none⟩),
          fun v _ => v = .agg #[.int .u8 (x.kind.toNat : Int), .int .u64 (x.epoch : Int), .int .u64 (x.seq : Int), .string (str x.pay)],
          fun v _ => v = .slice (some ⟨b2, o2, none⟩) l.length c,
          fun v _ => v = .int .i64 (k : Int),
          fun v _ => v = .pointer (some ⟨b2, o2 + k * 4, none⟩),
          fun v _ => v = .agg #[.int .u8 (x.kind.toNat : Int), .int .u64 (x.epoch : Int), .int .u64 (x.seq : Int), .string (str x.pay)],
          fun v _ => v = .bool false])
        (by kernel_rfl) (by kernel_rfl) (fun v => by simp only [putsV, Act.put, List.toList_toArray, List.setIfInBounds_toArray, List.set_cons_zero, List.set_cons_succ, Nat.reduceAdd, Nat.zero_add]; rfl) ?_ (Below.refl _ _).drew ?_ ?_
      · intro j x u u' hb h
        match j with
        | 0 => exact h
        | 1 => exact h
        | 2 => exact h
        | 3 => exact h
        | 4 => exact h
        | 5 => exact h
        | 6 => exact h
        | 7 => exact h
        | 8 => exact h
        | _ + 9 => trivial
      · refine ⟨?_, ?_, ?_, ?_, ?_, ?_, ?_, ?_, ?_, trivial⟩
        · intro v u hS hd K' hK
          simp only [waited, List.toList_toArray, Region.binds, rel, List.getD_cons_zero, List.getD_cons_succ, true_imp_iff, and_true] at hd
          simp only [rel, List.getD_cons_zero, List.getD_cons_succ, Act.put, List.setIfInBounds_toArray, List.set_cons_zero, List.set_cons_succ] at hK
          try simp only [hd] at hK
          have hS1 := hS
          go_simp
          exact hK.out _ _ ⟨hS1, Below.refl _ _, rfl⟩
        · intro v u hS hd K' hK
          simp only [waited, List.toList_toArray, Region.binds, rel, List.getD_cons_zero, List.getD_cons_succ, true_imp_iff, and_true] at hd
          simp only [rel, List.getD_cons_zero, List.getD_cons_succ, Act.put, List.setIfInBounds_toArray, List.set_cons_zero, List.set_cons_succ] at hK
          try simp only [hd] at hK
          have hS1 := hS
          go_simp
          exact hK.out _ _ ⟨hS1, Below.refl _ _, rfl⟩
        · intro v u hS hd K' hK
          simp only [waited, List.toList_toArray, Region.binds, rel, List.getD_cons_zero, List.getD_cons_succ, true_imp_iff, and_true] at hd
          simp only [rel, List.getD_cons_zero, List.getD_cons_succ, Act.put, List.setIfInBounds_toArray, List.set_cons_zero, List.set_cons_succ] at hK
          try simp only [hd] at hK
          have hS1 := hS
          go_simp
          exact hK.out _ _ ⟨hS1, Below.refl _ _, rfl⟩
        · intro v u hS hd K' hK
          simp only [waited, List.toList_toArray, Region.binds, rel, List.getD_cons_zero, List.getD_cons_succ, true_imp_iff, and_true] at hd
          simp only [rel, List.getD_cons_zero, List.getD_cons_succ, Act.put, List.setIfInBounds_toArray, List.set_cons_zero, List.set_cons_succ] at hK
          try simp only [hd] at hK
          have hS1 := hS
          have q0 := (hS1.cell (p := ⟨b1, o1 + k * 4, none⟩) (World.block_lt_of_cell? wr _ b1c.1)).trans b1c.1
          have q1 := (hS1.cell (p := ⟨b1, o1 + k * 4 + 1, none⟩) (World.block_lt_of_cell? wr _ b1c.2.1)).trans b1c.2.1
          have q2 := (hS1.cell (p := ⟨b1, o1 + k * 4 + 2, none⟩) (World.block_lt_of_cell? wr _ b1c.2.2.1)).trans b1c.2.2.1
          have q3 := (hS1.cell (p := ⟨b1, o1 + k * 4 + 3, none⟩) (World.block_lt_of_cell? wr _ b1c.2.2.2)).trans b1c.2.2.2
          go_simp
          exact hK.out _ _ ⟨hS1, Below.refl _ _, rfl⟩
        · intro v u hS hd K' hK
          simp only [waited, List.toList_toArray, Region.binds, rel, List.getD_cons_zero, List.getD_cons_succ, true_imp_iff, and_true] at hd
          simp only [rel, List.getD_cons_zero, List.getD_cons_succ, Act.put, List.setIfInBounds_toArray, List.set_cons_zero, List.set_cons_succ] at hK
          try simp only [hd] at hK
          have hS1 := hS
          go_simp
          exact hK.out _ _ ⟨hS1, Below.refl _ _, rfl⟩
        · intro v u hS hd K' hK
          simp only [waited, List.toList_toArray, Region.binds, rel, List.getD_cons_zero, List.getD_cons_succ, true_imp_iff, and_true] at hd
          simp only [rel, List.getD_cons_zero, List.getD_cons_succ, Act.put, List.setIfInBounds_toArray, List.set_cons_zero, List.set_cons_succ] at hK
          try simp only [hd] at hK
          have hS1 := hS
          go_simp
          exact hK.out _ _ ⟨hS1, Below.refl _ _, rfl⟩
        · intro v u hS hd K' hK
          simp only [waited, List.toList_toArray, Region.binds, rel, List.getD_cons_zero, List.getD_cons_succ, true_imp_iff, and_true] at hd
          simp only [rel, List.getD_cons_zero, List.getD_cons_succ, Act.put, List.setIfInBounds_toArray, List.set_cons_zero, List.set_cons_succ] at hK
          try simp only [hd] at hK
          have hS1 := hS
          go_simp
          exact hK.out _ _ ⟨hS1, Below.refl _ _, rfl⟩
        · intro v u hS hd K' hK
          simp only [waited, List.toList_toArray, Region.binds, rel, List.getD_cons_zero, List.getD_cons_succ, true_imp_iff, and_true] at hd
          simp only [rel, List.getD_cons_zero, List.getD_cons_succ, Act.put, List.setIfInBounds_toArray, List.set_cons_zero, List.set_cons_succ] at hK
          try simp only [hd] at hK
          have hS1 := hS
          have q0 := (hS1.cell (p := ⟨b2, o2 + k * 4, none⟩) (World.block_lt_of_cell? wr _ b2c.1)).trans b2c.1
          have q1 := (hS1.cell (p := ⟨b2, o2 + k * 4 + 1, none⟩) (World.block_lt_of_cell? wr _ b2c.2.1)).trans b2c.2.1
          have q2 := (hS1.cell (p := ⟨b2, o2 + k * 4 + 2, none⟩) (World.block_lt_of_cell? wr _ b2c.2.2.1)).trans b2c.2.2.1
          have q3 := (hS1.cell (p := ⟨b2, o2 + k * 4 + 3, none⟩) (World.block_lt_of_cell? wr _ b2c.2.2.2)).trans b2c.2.2.2
          go_simp
          exact hK.out _ _ ⟨hS1, Below.refl _ _, rfl⟩
        · intro v u hS hd K' hK
          simp only [waited, List.toList_toArray, Region.binds, rel, List.getD_cons_zero, List.getD_cons_succ, true_imp_iff, and_true] at hd
          simp only [rel, List.getD_cons_zero, List.getD_cons_succ, Act.put, List.setIfInBounds_toArray, List.set_cons_zero, List.set_cons_succ] at hK
          try simp only [hd] at hK
          have hS1 := hS
          go_simp
          exact hK.out _ _ ⟨hS1, Below.refl _ _, rfl⟩
      · rintro v u hS1 hR
        simp only [holdAll, List.size_toArray, List.length_cons, List.length_nil, Nat.reduceAdd, rel, List.getD_cons_zero, List.getD_cons_succ] at hR
        obtain ⟨_, h8⟩ := hR
        simp only [h8]
        clear h8
        go_wp2
        go_roundw
        case rel => exact ⟨k + 1, by omega, by go_num, bt hb hS1⟩
        case measure => simp [intOf]; omega
    · obtain rfl : k = l.length := by omega
      go_wp2
      go_ret
      exact ⟨rfl, hb⟩
end Go.Proofs.Ytdgonhmipecjpaa
