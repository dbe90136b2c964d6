/- Several small texts of this proof, one behind the other. -/
import Derived.Test.YtiodfbbgbnbdpaaGF
import Derived.Test.YtiodfbbgbnbdpaaRef16
import Derived.Test.YtiodfbbgbnbdpaaGD
import Derived.Test.YtiodfbbgbnbdpaaApp
section
/- lictorref16.one. -/
namespace Go.Proofs.Ytiodfbbgbnbdpaa
set_option linter.unusedSimpArgs false
set_option linter.unusedVariables false
open Go.RowKit
open Crc
theorem str_nil : str ([] : List UInt8) = ⟨#[]⟩ := rfl
theorem str_cons_size (k : UInt8) (r : List UInt8) : (str (k :: r)).size = r.length + 1 := by rw [str_size]; rfl
theorem str_cons_get (k : UInt8) (r : List UInt8) : ∀ h : 0 < (str (k :: r)).size, (str (k :: r))[0] = k := fun _ => rfl
theorem str_cons_drop (k : UInt8) (r : List UInt8) : (str (k :: r)).extract 1 (str (k :: r)).size = str r := by
  rw [str_extract, str_cons_size, List.take_of_length_le (by simp)]
  rfl
theorem str_empty (l : List UInt8) : ((str l).toList == []) = decide (l = []) := by
  rw [str_toList]
  cases l <;> rfl
theorem four (l : List ByteArray) (h : l.length = 4) : ∃ a b c d, l = [a, b, c, d] := by
  match l, h with
  | [a, b, c, d], _ => exact ⟨a, b, c, d, rfl⟩
set_option maxRecDepth 100000 in
set_option maxHeartbeats 1000000 in
theorem refOne_0 (w : World) :
    Calls Try.prog 46 #[.string (str [])] w fun e w' => e = .returned (.tuple #[.agg (chCells (oneL []).1).toArray, .string (str (oneL []).2.1), .bool (oneL []).2.2]) ∧ Below w.heap.size w w' := by
  have b0 := below_alloc w (.cells #[.int .u8 0, .string ⟨#[]⟩, .string ⟨#[]⟩, .string ⟨#[]⟩, .string ⟨#[]⟩] 28)
  have r0 := Blk.new w [.int .u8 0, .string ⟨#[]⟩, .string ⟨#[]⟩, .string ⟨#[]⟩, .string ⟨#[]⟩] 28
  have hs := str_empty []
  rw [decide_eq_true rfl] at hs
  show Calls Try.prog 46 #[.string (str [])] w fun e w' => e = .returned (.tuple #[.agg #[.int .u8 0, .string ⟨#[]⟩, .string ⟨#[]⟩, .string ⟨#[]⟩, .string ⟨#[]⟩], .string ⟨#[]⟩, .bool false]) ∧ Below w.heap.size w w'
  obtain ⟨S, hS⟩ := named (str [])
  rw [← hS.out] at hs ⊢
  clear hS
  go_enter Try.func46, Try.ntmps46
  go_upto_region 1 with fail
  obtain ⟨w1, hw1⟩ := named (w.alloc (.cells #[.int .u8 0, .string ⟨#[]⟩, .string ⟨#[]⟩, .string ⟨#[]⟩, .string ⟨#[]⟩] 28))
  rw [← hw1.out] at r0 b0 ⊢
  clear hw1
  have x0 := r0.cell
  have f0 := r0.free
  have k6 : Blk (((((w1.setCell ⟨w.heap.size, 0, none⟩ (.int .u8 0)).setCell ⟨w.heap.size, 1, none⟩ (.string ⟨#[]⟩)).setCell ⟨w.heap.size, 2, none⟩ (.string ⟨#[]⟩)).setCell ⟨w.heap.size, 3, none⟩ (.string ⟨#[]⟩)).setCell ⟨w.heap.size, 4, none⟩ (.string ⟨#[]⟩)) w.heap.size [.int .u8 0, .string ⟨#[]⟩, .string ⟨#[]⟩, .string ⟨#[]⟩, .string ⟨#[]⟩] 28 := (((((r0.set 0 (.int .u8 0)).set 1 (.string ⟨#[]⟩)).set 2 (.string ⟨#[]⟩)).set 3 (.string ⟨#[]⟩)).set 4 (.string ⟨#[]⟩))
  have hb6 : Below w.heap.size w (((((w1.setCell ⟨w.heap.size, 0, none⟩ (.int .u8 0)).setCell ⟨w.heap.size, 1, none⟩ (.string ⟨#[]⟩)).setCell ⟨w.heap.size, 2, none⟩ (.string ⟨#[]⟩)).setCell ⟨w.heap.size, 3, none⟩ (.string ⟨#[]⟩)).setCell ⟨w.heap.size, 4, none⟩ (.string ⟨#[]⟩)) := (((((b0.setCell (p := ⟨w.heap.size, 0, none⟩) (Nat.le_refl _) (.int .u8 0)).setCell (p := ⟨w.heap.size, 1, none⟩) (Nat.le_refl _) (.string ⟨#[]⟩)).setCell (p := ⟨w.heap.size, 2, none⟩) (Nat.le_refl _) (.string ⟨#[]⟩)).setCell (p := ⟨w.heap.size, 3, none⟩) (Nat.le_refl _) (.string ⟨#[]⟩)).setCell (p := ⟨w.heap.size, 4, none⟩) (Nat.le_refl _) (.string ⟨#[]⟩))
  clear r0 b0
  go_wp2
  obtain ⟨w6, hw6⟩ := named (((((w1.setCell ⟨w.heap.size, 0, none⟩ (.int .u8 0)).setCell ⟨w.heap.size, 1, none⟩ (.string ⟨#[]⟩)).setCell ⟨w.heap.size, 2, none⟩ (.string ⟨#[]⟩)).setCell ⟨w.heap.size, 3, none⟩ (.string ⟨#[]⟩)).setCell ⟨w.heap.size, 4, none⟩ (.string ⟨#[]⟩))
  rw [← hw6.out] at k6 hb6
  rw [show (((((w1.setCell ⟨w.heap.size, 0, none⟩ (.int .u8 0)).setCell ⟨w.heap.size, 1, none⟩ (.string ⟨#[]⟩)).setCell ⟨w.heap.size, 2, none⟩ (.string ⟨#[]⟩)).setCell ⟨w.heap.size, 3, none⟩ (.string ⟨#[]⟩)).setCell ⟨w.heap.size, 4, none⟩ (.string ⟨#[]⟩)) = w6 from hw6.out.symm]
  clear hw6 x0 f0
  have y0 := k6.cell 0
  have y1 := k6.cell 1
  have y2 := k6.cell 2
  have y3 := k6.cell 3
  have y4 := k6.cell 4
  refine bodyPost_ret (v := .tuple #[.agg #[.int .u8 0, .string ⟨#[]⟩, .string ⟨#[]⟩, .string ⟨#[]⟩, .string ⟨#[]⟩], .string ⟨#[]⟩, .bool false]) (by simp [results, Try.results46, go_sem, y0, y1, y2, y3, y4]) rfl ?_
  exact ⟨rfl, hb6⟩

set_option maxRecDepth 100000 in
set_option maxHeartbeats 2000000 in
theorem refOne_k (k : UInt8) (r : List UInt8) (w : World) (hl : r.length ≤ 140737488351232) :
    Calls Try.prog 46 #[.string (str (k :: r))] w fun e w' => e = .returned (.tuple #[.agg (chCells (oneL (k :: r)).1).toArray, .string (str (oneL (k :: r)).2.1), .bool (oneL (k :: r)).2.2]) ∧ Below w.heap.size w w' := by
  have hT := fun (j : Nat) (W : World) => refTaken_w (str (takesL j r).2.1) W (by rw [str_size]; exact Nat.le_trans (takesL_len j r) hl)
  simp only [str_data] at hT
  have h4 := takesL_length 4 r
  have hri := fun W => refRight_w (oneL (k :: r)).1 W
  have hone : oneL (k :: r) = (chOf k (takesL 4 r).1, (takesL 4 r).2.1, (takesL 4 r).2.2 && chRight (chOf k (takesL 4 r).1)) := rfl
  have HONE := hide hone
  clear hone
  obtain ⟨O, hO⟩ := named (oneL (k :: r))
  rw [← hO.out] at HONE ⊢
  simp only [← hO.out] at hri
  clear hO
  have g1 := str_cons_size k r
  have g2 := str_cons_get k r
  have g3 := str_cons_drop k r
  have g4 := str_empty (k :: r)
  rw [decide_eq_false (by simp)] at g4
  rw [g1] at g3
  obtain ⟨S, hS⟩ := named (str (k :: r))
  rw [← hS.out] at g1 g2 g3 g4 ⊢
  clear hS hl
  have b0 := bt (bt (below_alloc w (.cells #[.int .u8 0, .string ⟨#[]⟩, .string ⟨#[]⟩, .string ⟨#[]⟩, .string ⟨#[]⟩] 28)) (below_alloc _ (.cells #[.int .u8 (k.toNat : Int), .string ⟨#[]⟩, .string ⟨#[]⟩, .string ⟨#[]⟩, .string ⟨#[]⟩] 28))) (below_alloc _ (.cells #[.string ⟨#[]⟩, .string ⟨#[]⟩, .string ⟨#[]⟩, .string ⟨#[]⟩] 9))
  have r0 := ((Blk.new w [.int .u8 0, .string ⟨#[]⟩, .string ⟨#[]⟩, .string ⟨#[]⟩, .string ⟨#[]⟩] 28).alloc (.cells #[.int .u8 (k.toNat : Int), .string ⟨#[]⟩, .string ⟨#[]⟩, .string ⟨#[]⟩, .string ⟨#[]⟩] 28)).alloc (.cells #[.string ⟨#[]⟩, .string ⟨#[]⟩, .string ⟨#[]⟩, .string ⟨#[]⟩] 9)
  have c0 := (Blk.new (w.alloc (.cells #[.int .u8 0, .string ⟨#[]⟩, .string ⟨#[]⟩, .string ⟨#[]⟩, .string ⟨#[]⟩] 28)) [.int .u8 (k.toNat : Int), .string ⟨#[]⟩, .string ⟨#[]⟩, .string ⟨#[]⟩, .string ⟨#[]⟩] 28).alloc (.cells #[.string ⟨#[]⟩, .string ⟨#[]⟩, .string ⟨#[]⟩, .string ⟨#[]⟩] 9)
  have q0 := Blk.new ((w.alloc (.cells #[.int .u8 0, .string ⟨#[]⟩, .string ⟨#[]⟩, .string ⟨#[]⟩, .string ⟨#[]⟩] 28)).alloc (.cells #[.int .u8 (k.toNat : Int), .string ⟨#[]⟩, .string ⟨#[]⟩, .string ⟨#[]⟩, .string ⟨#[]⟩] 28)) [.string ⟨#[]⟩, .string ⟨#[]⟩, .string ⟨#[]⟩, .string ⟨#[]⟩] 9
  rw [show (w.alloc (.cells #[.int .u8 0, .string ⟨#[]⟩, .string ⟨#[]⟩, .string ⟨#[]⟩, .string ⟨#[]⟩] 28)).heap.size = w.heap.size + 1 by simp] at c0
  rw [show ((w.alloc (.cells #[.int .u8 0, .string ⟨#[]⟩, .string ⟨#[]⟩, .string ⟨#[]⟩, .string ⟨#[]⟩] 28)).alloc (.cells #[.int .u8 (k.toNat : Int), .string ⟨#[]⟩, .string ⟨#[]⟩, .string ⟨#[]⟩, .string ⟨#[]⟩] 28)).heap.size = w.heap.size + 1 + 1 by simp] at q0
  go_enter Try.func46, Try.ntmps46
  go_upto_region 6 with fail
  obtain ⟨w1, hw1⟩ := named (((w.alloc (.cells #[.int .u8 0, .string ⟨#[]⟩, .string ⟨#[]⟩, .string ⟨#[]⟩, .string ⟨#[]⟩] 28)).alloc (.cells #[.int .u8 (k.toNat : Int), .string ⟨#[]⟩, .string ⟨#[]⟩, .string ⟨#[]⟩, .string ⟨#[]⟩] 28)).alloc (.cells #[.string ⟨#[]⟩, .string ⟨#[]⟩, .string ⟨#[]⟩, .string ⟨#[]⟩] 9))
  rw [← hw1.out] at r0 b0 c0 q0 ⊢
  clear hw1
  go_upto_region 8 with fail
  clear g1 g2 g3 g4
  go_loopw [22, 8, 6] (fun i s o wr => ∃ j : Nat, j ≤ 4 ∧ i = .int .i64 (j : Int) ∧ s = .string (str (takesL j r).2.1) ∧ o = .bool (takesL j r).2.2 ∧ Blk wr (w.heap.size + 1 + 1) (strs ((takesL j r).1 ++ List.replicate (4 - j) e0)) 9 ∧ Blk wr (w.heap.size + 1) [.int .u8 (k.toNat : Int), .string ⟨#[]⟩, .string ⟨#[]⟩, .string ⟨#[]⟩, .string ⟨#[]⟩] 28 ∧ Blk wr w.heap.size [.int .u8 0, .string ⟨#[]⟩, .string ⟨#[]⟩, .string ⟨#[]⟩, .string ⟨#[]⟩] 28 ∧ Below w.heap.size w wr) (fun i _ _ _ => 4 - (intOf i).toNat)
  case atStart => exact ⟨0, by omega, rfl, rfl, rfl, q0, c0, r0, b0⟩
  case round =>
    clear b0 r0 c0 q0
    obtain ⟨j, hj4, rfl, rfl, rfl, q0, c0, r0, b0⟩ := hrel
    by_cases hj : j < 4
    · have hjl := takesL_length j r
      have hTj := hT j wr
      have e1 : takesL (j + 1) r = ((takesL j r).1 ++ [str (tkL (takesL j r).2.1).1], (tkL (takesL j r).2.1).2.1, (takesL j r).2.2 && (tkL (takesL j r).2.1).2.2) := rfl
      have E1 := hide e1
      clear e1
      obtain ⟨P, hP⟩ := named (takesL j r)
      obtain ⟨pt, ps, po⟩ := P
      simp only [← hP.out] at hTj hjl q0 E1 ⊢
      clear hP
      obtain ⟨Y, hY⟩ := named (tkL ps)
      obtain ⟨y1, y2, y3⟩ := Y
      simp only [← hY.out] at hTj E1
      clear hY
      obtain ⟨t1, ht1⟩ := named (str y1)
      simp only [← ht1.out] at hTj E1
      clear ht1
      clear hT
      have hfr := q0.free
      have hm : 4 - j = (4 - (j + 1)) + 1 := by omega
      go_wp2_with fail
      refine hTj.mono ?_
      rintro e w2 ⟨rfl, hb2⟩
      replace q0 := q0.below hb2
      replace c0 := c0.below hb2
      replace r0 := r0.below hb2
      replace b0 := bt b0 hb2
      clear hb2 hTj hfr
      have hlt : (j : Int) < 4 := by omega
      have hcl : w2.cell? ⟨(w.heap.size + 1 + 1), j, none⟩ = some (.string e0) := by
        rw [q0.cell]
        have e9 : (strs (pt ++ List.replicate (4 - j) e0))[j]? = some (.string e0) := by
          simp only [strs, List.getElem?_map]
          rw [List.getElem?_append_right (by omega), hjl, Nat.sub_self, hm]
          rfl
        exact e9
      have hfr := q0.free j
      have q1 := q0.set j (.string t1)
      have c1 := c0.far (p := ⟨(w.heap.size + 1 + 1), j, none⟩) (by show (w.heap.size + 1) ≠ (w.heap.size + 1 + 1); omega) (.string t1)
      have r1 := r0.far (p := ⟨(w.heap.size + 1 + 1), j, none⟩) (by show w.heap.size ≠ (w.heap.size + 1 + 1); omega) (.string t1)
      have b1 := b0.setCell (p := ⟨(w.heap.size + 1 + 1), j, none⟩) (by show w.heap.size ≤ (w.heap.size + 1 + 1); omega) (.string t1)
      have hset : (strs (pt ++ List.replicate (4 - j) e0)).set j (.string t1) = strs ((pt ++ [t1]) ++ List.replicate (4 - (j + 1)) e0) := by
        have := strs_fill [] pt (4 - (j + 1)) t1
        simp only [List.nil_append, List.length_nil, Nat.zero_add, hjl] at this
        rw [hm]
        exact this
      rw [hset] at q1
      clear hset c0 r0 b0 q0
      go_upto_region 12 with fail
      obtain ⟨w3, hw3⟩ := named (w2.setCell ⟨(w.heap.size + 1 + 1), j, none⟩ (.string t1))
      rw [← hw3.out] at q1 c1 r1 b1 ⊢
      clear hw3 hcl hfr
      cases po with
      | true =>
        go_wp2
        go_roundw
        case rel => exact ⟨j + 1, by omega, by first | rfl | go_num, by rw [E1.out], by rw [E1.out]; rfl, by rw [E1.out]; exact q1, c1, r1, b1⟩
        case measure => simp [intOf]; omega
      | false =>
        go_wp2
        go_roundw
        case rel => exact ⟨j + 1, by omega, by first | rfl | go_num, by rw [E1.out], by rw [E1.out]; rfl, by rw [E1.out]; exact q1, c1, r1, b1⟩
        case measure => simp [intOf]; omega
    · obtain rfl : j = 4 := by omega
      obtain ⟨P, hP⟩ := named (takesL 4 r)
      obtain ⟨pt, ps, po⟩ := P
      simp only [← hP.out] at h4 q0 HONE ⊢
      clear hP hT hj hj4
      obtain ⟨a, b, c, d, rfl⟩ := four pt h4
      clear h4
      have hO : O = (⟨k, a, b, c, d⟩, ps, po && chRight ⟨k, a, b, c, d⟩) := HONE.out
      subst hO
      clear HONE
      replace q0 : Blk wr (w.heap.size + 1 + 1) [.string a, .string b, .string c, .string d] 9 := q0
      simp only at hri ⊢
      replace hri : ∀ W, Calls Try.prog 35 #[.agg #[.int .u8 (k.toNat : Int), .string a, .string b, .string c, .string d]] W fun e w' => e = .returned (.bool (chRight ⟨k, a, b, c, d⟩)) ∧ Below W.heap.size W w' := hri
      obtain ⟨qr, hqr⟩ := named (chRight ⟨k, a, b, c, d⟩)
      simp only [← hqr.out] at hri ⊢
      rw [show ((4 : Nat) : Int) = 4 from rfl]
      go_wp2_with fail
      refine region_flatS _ (fun L u => Blk u (w.heap.size + 1 + 1) [.string a, .string b, .string c, .string d] 9 ∧ Blk u (w.heap.size + 1) [.int .u8 (k.toNat : Int), cond (L 14) (.string a) (.string ⟨#[]⟩), cond (L 16) (.string b) (.string ⟨#[]⟩), cond (L 18) (.string c) (.string ⟨#[]⟩), cond (L 18) (.string d) (.string ⟨#[]⟩)] 28 ∧ Blk u w.heap.size [.int .u8 0, .string ⟨#[]⟩, .string ⟨#[]⟩, .string ⟨#[]⟩, .string ⟨#[]⟩] 28 ∧ Below w.heap.size w u) (fun _ _ _ => True)
        (fun _ => rel [fun v _ => v = .slice (some ⟨(w.heap.size + 1 + 1), 0, none⟩) 4 4,
          fun v _ => v = .pointer (some ⟨(w.heap.size + 1 + 1), 0, none⟩),
          fun v _ => v = .string a,
          fun v _ => v = .slice (some ⟨(w.heap.size + 1 + 1), 0, none⟩) 4 4,
          fun v _ => v = .pointer (some ⟨(w.heap.size + 1 + 1), 1, none⟩),
          fun v _ => v = .string b,
          fun v _ => v = .slice (some ⟨(w.heap.size + 1 + 1), 0, none⟩) 4 4,
          fun v _ => v = .pointer (some ⟨(w.heap.size + 1 + 1), 2, none⟩),
          fun v _ => v = .string c,
          fun v _ => v = .slice (some ⟨(w.heap.size + 1 + 1), 0, none⟩) 4 4,
          fun v _ => v = .pointer (some ⟨(w.heap.size + 1 + 1), 3, none⟩),
          fun v _ => v = .string d,
          fun v _ => v = .agg #[.string c, .string d],
          fun v _ => v = .pointer (some ⟨(w.heap.size + 1), 1, none⟩),
          fun _ _ => True,
          fun v _ => v = .pointer (some ⟨(w.heap.size + 1), 2, none⟩),
          fun _ _ => True,
          fun v _ => v = .pointer (some ⟨(w.heap.size + 1), 3, none⟩),
          fun _ _ => True])
        (by kernel_rfl) (by kernel_rfl) (fun v => by simp only [putsV, Act.put, List.toList_toArray, List.setIfInBounds_toArray, List.set_cons_zero, List.set_cons_succ, Nat.reduceAdd, Nat.zero_add]; rfl) ?_ (fun _ _ _ _ _ h => h) ⟨q0, c0, r0, b0.drew⟩ ?_ (fun _ _ _ _ _ _ h => h) (fun L L' u hL h => by rw [← hL 14 (by decide)]; rw [← hL 16 (by decide)]; rw [← hL 18 (by decide)]; exact h) ?_
      · intro i L j x u u' _ _ hG h
        match j with
        | 0 => exact h
        | 1 => exact h
        | 2 => exact h
        | 3 => exact h
        | 4 => exact h
        | 5 => exact h
        | 6 => exact h
        | 7 => exact h
        | 8 => exact h
        | 9 => exact h
        | 10 => exact h
        | 11 => exact h
        | 12 => exact h
        | 13 => exact h
        | 14 => exact h
        | 15 => exact h
        | 16 => exact h
        | 17 => exact h
        | 18 => exact h
        | _ + 19 => trivial
      · refine ⟨?_, ?_, ?_, ?_, ?_, ?_, ?_, ?_, ?_, ?_, ?_, ?_, ?_, ?_, ?_, ?_, ?_, ?_, ?_, trivial⟩
        · intro L hL hcl v u hS hd K' hK
          simp only [waited, List.toList_toArray, Region.binds, rel, List.getD_cons_zero, List.getD_cons_succ, true_imp_iff, and_true] at hd
          simp only [rel, List.getD_cons_zero, List.getD_cons_succ, Act.put, List.setIfInBounds_toArray, List.set_cons_zero, List.set_cons_succ] at hK
          try simp only [hd] at hK
          go_simp
          exact hK.out _ _ ⟨hS, trivial, rfl⟩
        · intro L hL hcl v u hS hd K' hK
          simp only [waited, List.toList_toArray, Region.binds, rel, List.getD_cons_zero, List.getD_cons_succ, true_imp_iff, and_true] at hd
          simp only [rel, List.getD_cons_zero, List.getD_cons_succ, Act.put, List.setIfInBounds_toArray, List.set_cons_zero, List.set_cons_succ] at hK
          try simp only [hd] at hK
          go_simp
          exact hK.out _ _ ⟨hS, trivial, rfl⟩
        · intro L hL hcl v u hS hd K' hK
          simp only [waited, List.toList_toArray, Region.binds, rel, List.getD_cons_zero, List.getD_cons_succ, true_imp_iff, and_true] at hd
          simp only [rel, List.getD_cons_zero, List.getD_cons_succ, Act.put, List.setIfInBounds_toArray, List.set_cons_zero, List.set_cons_succ] at hK
          try simp only [hd] at hK
          have x0 := hS.1.cell
          go_simp
          exact hK.out _ _ ⟨hS, trivial, rfl⟩
        · intro L hL hcl v u hS hd K' hK
          simp only [waited, List.toList_toArray, Region.binds, rel, List.getD_cons_zero, List.getD_cons_succ, true_imp_iff, and_true] at hd
          simp only [rel, List.getD_cons_zero, List.getD_cons_succ, Act.put, List.setIfInBounds_toArray, List.set_cons_zero, List.set_cons_succ] at hK
          try simp only [hd] at hK
          go_simp
          exact hK.out _ _ ⟨hS, trivial, rfl⟩
        · intro L hL hcl v u hS hd K' hK
          simp only [waited, List.toList_toArray, Region.binds, rel, List.getD_cons_zero, List.getD_cons_succ, true_imp_iff, and_true] at hd
          simp only [rel, List.getD_cons_zero, List.getD_cons_succ, Act.put, List.setIfInBounds_toArray, List.set_cons_zero, List.set_cons_succ] at hK
          try simp only [hd] at hK
          go_simp
          exact hK.out _ _ ⟨hS, trivial, rfl⟩
        · intro L hL hcl v u hS hd K' hK
          simp only [waited, List.toList_toArray, Region.binds, rel, List.getD_cons_zero, List.getD_cons_succ, true_imp_iff, and_true] at hd
          simp only [rel, List.getD_cons_zero, List.getD_cons_succ, Act.put, List.setIfInBounds_toArray, List.set_cons_zero, List.set_cons_succ] at hK
          try simp only [hd] at hK
          have x0 := hS.1.cell
          go_simp
          exact hK.out _ _ ⟨hS, trivial, rfl⟩
        · intro L hL hcl v u hS hd K' hK
          simp only [waited, List.toList_toArray, Region.binds, rel, List.getD_cons_zero, List.getD_cons_succ, true_imp_iff, and_true] at hd
          simp only [rel, List.getD_cons_zero, List.getD_cons_succ, Act.put, List.setIfInBounds_toArray, List.set_cons_zero, List.set_cons_succ] at hK
          try simp only [hd] at hK
          go_simp
          exact hK.out _ _ ⟨hS, trivial, rfl⟩
        · intro L hL hcl v u hS hd K' hK
          simp only [waited, List.toList_toArray, Region.binds, rel, List.getD_cons_zero, List.getD_cons_succ, true_imp_iff, and_true] at hd
          simp only [rel, List.getD_cons_zero, List.getD_cons_succ, Act.put, List.setIfInBounds_toArray, List.set_cons_zero, List.set_cons_succ] at hK
          try simp only [hd] at hK
          go_simp
          exact hK.out _ _ ⟨hS, trivial, rfl⟩
        · intro L hL hcl v u hS hd K' hK
          simp only [waited, List.toList_toArray, Region.binds, rel, List.getD_cons_zero, List.getD_cons_succ, true_imp_iff, and_true] at hd
          simp only [rel, List.getD_cons_zero, List.getD_cons_succ, Act.put, List.setIfInBounds_toArray, List.set_cons_zero, List.set_cons_succ] at hK
          try simp only [hd] at hK
          have x0 := hS.1.cell
          go_simp
          exact hK.out _ _ ⟨hS, trivial, rfl⟩
        · intro L hL hcl v u hS hd K' hK
          simp only [waited, List.toList_toArray, Region.binds, rel, List.getD_cons_zero, List.getD_cons_succ, true_imp_iff, and_true] at hd
          simp only [rel, List.getD_cons_zero, List.getD_cons_succ, Act.put, List.setIfInBounds_toArray, List.set_cons_zero, List.set_cons_succ] at hK
          try simp only [hd] at hK
          go_simp
          exact hK.out _ _ ⟨hS, trivial, rfl⟩
        · intro L hL hcl v u hS hd K' hK
          simp only [waited, List.toList_toArray, Region.binds, rel, List.getD_cons_zero, List.getD_cons_succ, true_imp_iff, and_true] at hd
          simp only [rel, List.getD_cons_zero, List.getD_cons_succ, Act.put, List.setIfInBounds_toArray, List.set_cons_zero, List.set_cons_succ] at hK
          try simp only [hd] at hK
          go_simp
          exact hK.out _ _ ⟨hS, trivial, rfl⟩
        · intro L hL hcl v u hS hd K' hK
          simp only [waited, List.toList_toArray, Region.binds, rel, List.getD_cons_zero, List.getD_cons_succ, true_imp_iff, and_true] at hd
          simp only [rel, List.getD_cons_zero, List.getD_cons_succ, Act.put, List.setIfInBounds_toArray, List.set_cons_zero, List.set_cons_succ] at hK
          try simp only [hd] at hK
          have x0 := hS.1.cell
          go_simp
          exact hK.out _ _ ⟨hS, trivial, rfl⟩
        · intro L hL hcl v u hS hd K' hK
          simp only [waited, List.toList_toArray, Region.binds, rel, List.getD_cons_zero, List.getD_cons_succ, true_imp_iff, and_true] at hd
          simp only [rel, List.getD_cons_zero, List.getD_cons_succ, Act.put, List.setIfInBounds_toArray, List.set_cons_zero, List.set_cons_succ] at hK
          try simp only [hd] at hK
          go_simp
          exact hK.out _ _ ⟨hS, trivial, rfl⟩
        · intro L hL hcl v u hS hd K' hK
          simp only [waited, List.toList_toArray, Region.binds, rel, List.getD_cons_zero, List.getD_cons_succ, true_imp_iff, and_true] at hd
          simp only [rel, List.getD_cons_zero, List.getD_cons_succ, Act.put, List.setIfInBounds_toArray, List.set_cons_zero, List.set_cons_succ] at hK
          try simp only [hd] at hK
          go_simp
          exact hK.out _ _ ⟨hS, trivial, rfl⟩
        · intro L hL hcl v u hS hd K' hK
          simp only [waited, List.toList_toArray, Region.binds, rel, List.getD_cons_zero, List.getD_cons_succ, true_imp_iff, and_true] at hd
          simp only [rel, List.getD_cons_zero, List.getD_cons_succ, Act.put, List.setIfInBounds_toArray, List.set_cons_zero, List.set_cons_succ] at hK
          try simp only [hd] at hK
          have h1 := hS.2.1
          have x1 := h1.cell 1
          have f1 := h1.free 1
          first | (obtain ⟨e0', _⟩ := hd) | (have e0' := hd)
          try simp only [e0'] at hK ⊢
          go_simp
          exact hK.out undef _ ⟨⟨(hS.1.far (p := ⟨(w.heap.size + 1), 1, none⟩) (by show (w.heap.size + 1 + 1) ≠ (w.heap.size + 1); omega) (.string a)), (hS.2.1.set 1 (.string a)), (hS.2.2.1.far (p := ⟨(w.heap.size + 1), 1, none⟩) (by show w.heap.size ≠ (w.heap.size + 1); omega) (.string a)), (hS.2.2.2.setCell (p := ⟨(w.heap.size + 1), 1, none⟩) (by show w.heap.size ≤ (w.heap.size + 1); omega) (.string a))⟩, trivial, trivial⟩
        · intro L hL hcl v u hS hd K' hK
          simp only [waited, List.toList_toArray, Region.binds, rel, List.getD_cons_zero, List.getD_cons_succ, true_imp_iff, and_true] at hd
          simp only [rel, List.getD_cons_zero, List.getD_cons_succ, Act.put, List.setIfInBounds_toArray, List.set_cons_zero, List.set_cons_succ] at hK
          try simp only [hd] at hK
          go_simp
          exact hK.out _ _ ⟨hS, trivial, rfl⟩
        · intro L hL hcl v u hS hd K' hK
          simp only [waited, List.toList_toArray, Region.binds, rel, List.getD_cons_zero, List.getD_cons_succ, true_imp_iff, and_true] at hd
          simp only [rel, List.getD_cons_zero, List.getD_cons_succ, Act.put, List.setIfInBounds_toArray, List.set_cons_zero, List.set_cons_succ] at hK
          try simp only [hd] at hK
          have h1 := hS.2.1
          have x2 := h1.cell 2
          have f2 := h1.free 2
          first | (obtain ⟨e0', _⟩ := hd) | (have e0' := hd)
          try simp only [e0'] at hK ⊢
          go_simp
          exact hK.out undef _ ⟨⟨(hS.1.far (p := ⟨(w.heap.size + 1), 2, none⟩) (by show (w.heap.size + 1 + 1) ≠ (w.heap.size + 1); omega) (.string b)), (hS.2.1.set 2 (.string b)), (hS.2.2.1.far (p := ⟨(w.heap.size + 1), 2, none⟩) (by show w.heap.size ≠ (w.heap.size + 1); omega) (.string b)), (hS.2.2.2.setCell (p := ⟨(w.heap.size + 1), 2, none⟩) (by show w.heap.size ≤ (w.heap.size + 1); omega) (.string b))⟩, trivial, trivial⟩
        · intro L hL hcl v u hS hd K' hK
          simp only [waited, List.toList_toArray, Region.binds, rel, List.getD_cons_zero, List.getD_cons_succ, true_imp_iff, and_true] at hd
          simp only [rel, List.getD_cons_zero, List.getD_cons_succ, Act.put, List.setIfInBounds_toArray, List.set_cons_zero, List.set_cons_succ] at hK
          try simp only [hd] at hK
          go_simp
          exact hK.out _ _ ⟨hS, trivial, rfl⟩
        · intro L hL hcl v u hS hd K' hK
          simp only [waited, List.toList_toArray, Region.binds, rel, List.getD_cons_zero, List.getD_cons_succ, true_imp_iff, and_true] at hd
          simp only [rel, List.getD_cons_zero, List.getD_cons_succ, Act.put, List.setIfInBounds_toArray, List.set_cons_zero, List.set_cons_succ] at hK
          try simp only [hd] at hK
          have h1 := hS.2.1
          have x3 := h1.cell 3
          have x4 := h1.cell 4
          have f3 := h1.free 3
          have f4 := h1.free 4
          first | (obtain ⟨e0', _⟩ := hd) | (have e0' := hd)
          try simp only [e0'] at hK ⊢
          go_simp
          exact hK.out undef _ ⟨⟨((hS.1.far (p := ⟨(w.heap.size + 1), 3, none⟩) (by show (w.heap.size + 1 + 1) ≠ (w.heap.size + 1); omega) (.string c)).far (p := ⟨(w.heap.size + 1), 4, none⟩) (by show (w.heap.size + 1 + 1) ≠ (w.heap.size + 1); omega) (.string d)), ((hS.2.1.set 3 (.string c)).set 4 (.string d)), ((hS.2.2.1.far (p := ⟨(w.heap.size + 1), 3, none⟩) (by show w.heap.size ≠ (w.heap.size + 1); omega) (.string c)).far (p := ⟨(w.heap.size + 1), 4, none⟩) (by show w.heap.size ≠ (w.heap.size + 1); omega) (.string d)), ((hS.2.2.2.setCell (p := ⟨(w.heap.size + 1), 3, none⟩) (by show w.heap.size ≤ (w.heap.size + 1); omega) (.string c)).setCell (p := ⟨(w.heap.size + 1), 4, none⟩) (by show w.heap.size ≤ (w.heap.size + 1); omega) (.string d))⟩, trivial, trivial⟩
      · rintro v u hS hR
        simp only [holdAll, List.size_toArray, List.length_cons, List.length_nil, Nat.reduceAdd, rel, List.getD_cons_zero, List.getD_cons_succ] at hR
        clear hR
        obtain ⟨hQ9, hC9, hR9, hb9⟩ := hS
        replace hC9 : Blk u (w.heap.size + 1) [.int .u8 (k.toNat : Int), .string a, .string b, .string c, .string d] 28 := hC9
        clear hQ9 q0 c0 r0 b0
        obtain ⟨w4, hw4⟩ := named u
        rw [← hw4.out] at hC9 hR9 hb9 ⊢
        clear hw4
        have hD9 := hb9.drew
        go_wp2_with fail
        cases po with
        | true =>
          refine region_flatS _ (fun L u => Blk u (w.heap.size + 1) [.int .u8 (k.toNat : Int), .string a, .string b, .string c, .string d] 28 ∧ Blk u w.heap.size (cond (L 7) [.int .u8 (k.toNat : Int), .string a, .string b, .string c, .string d] [.int .u8 0, .string ⟨#[]⟩, .string ⟨#[]⟩, .string ⟨#[]⟩, .string ⟨#[]⟩]) 28 ∧ Below w.heap.size w u) (fun _ _ _ => True)
            (fun _ => rel [fun v _ => v = .agg #[.int .u8 (k.toNat : Int), .string a, .string b, .string c, .string d],
              fun v _ => v = .string (str ps),
              fun v _ => v = .bool true,
              fun v _ => v = .bool true,
              fun v _ => v = .agg #[.int .u8 (k.toNat : Int), .string a, .string b, .string c, .string d],
              fun v _ => v = .bool qr,
              fun v _ => v = .bool qr,
              fun _ _ => True,
              fun v _ => v = .string (str ps),
              fun v _ => v = .bool qr])
            (by kernel_rfl) (by kernel_rfl) (fun v => by simp only [putsV, Act.put, List.toList_toArray, List.setIfInBounds_toArray, List.set_cons_zero, List.set_cons_succ, Nat.reduceAdd, Nat.zero_add]; rfl) ?_ (fun _ _ _ _ _ h => h) ⟨hC9, hR9, hD9⟩ ?_ (fun _ _ _ _ _ _ h => h) (fun L L' u hL h => by rw [← hL 7 (by decide)]; exact h) ?_
          · intro i L j x u u' _ _ hG h
            match j with
            | 0 => exact h
            | 1 => exact h
            | 2 => exact h
            | 3 => exact h
            | 4 => exact h
            | 5 => exact h
            | 6 => exact h
            | 7 => exact h
            | 8 => exact h
            | 9 => exact h
            | _ + 10 => trivial
          · refine ⟨?_, ?_, ?_, ?_, ?_, ?_, ?_, ?_, ?_, ?_, trivial⟩
            · intro L hL hcl v u hS hd K' hK
              simp only [waited, List.toList_toArray, Region.binds, rel, List.getD_cons_zero, List.getD_cons_succ, true_imp_iff, and_true] at hd
              simp only [rel, List.getD_cons_zero, List.getD_cons_succ, Act.put, List.setIfInBounds_toArray, List.set_cons_zero, List.set_cons_succ] at hK
              try simp only [hd] at hK
              have x0 := hS.1.cell
              go_simp
              exact hK.out _ _ ⟨hS, trivial, rfl⟩
            · intro L hL hcl v u hS hd K' hK
              simp only [waited, List.toList_toArray, Region.binds, rel, List.getD_cons_zero, List.getD_cons_succ, true_imp_iff, and_true] at hd
              simp only [rel, List.getD_cons_zero, List.getD_cons_succ, Act.put, List.setIfInBounds_toArray, List.set_cons_zero, List.set_cons_succ] at hK
              try simp only [hd] at hK
              go_simp
              exact hK.out _ _ ⟨hS, trivial, rfl⟩
            · intro L hL hcl v u hS hd K' hK
              simp only [waited, List.toList_toArray, Region.binds, rel, List.getD_cons_zero, List.getD_cons_succ, true_imp_iff, and_true] at hd
              simp only [rel, List.getD_cons_zero, List.getD_cons_succ, Act.put, List.setIfInBounds_toArray, List.set_cons_zero, List.set_cons_succ] at hK
              try simp only [hd] at hK
              go_simp
              exact hK.out _ _ ⟨hS, trivial, rfl⟩
            · intro L hL hcl v u hS hd K' hK
              simp only [waited, List.toList_toArray, Region.binds, rel, List.getD_cons_zero, List.getD_cons_succ, true_imp_iff, and_true] at hd
              simp only [rel, List.getD_cons_zero, List.getD_cons_succ, Act.put, List.setIfInBounds_toArray, List.set_cons_zero, List.set_cons_succ] at hK
              try simp only [hd] at hK
              go_simp
              exact hK.out _ _ ⟨hS, trivial, rfl⟩
            · intro L hL hcl v u hS hd K' hK
              simp only [waited, List.toList_toArray, Region.binds, rel, List.getD_cons_zero, List.getD_cons_succ, true_imp_iff, and_true] at hd
              simp only [rel, List.getD_cons_zero, List.getD_cons_succ, Act.put, List.setIfInBounds_toArray, List.set_cons_zero, List.set_cons_succ] at hK
              try simp only [hd] at hK
              have x0 := hS.1.cell
              go_simp
              exact hK.out _ _ ⟨hS, trivial, rfl⟩
            · intro L hL hcl v u hS hd K' hK
              simp only [waited, List.toList_toArray, Region.binds, rel, List.getD_cons_zero, List.getD_cons_succ, true_imp_iff, and_true] at hd
              simp only [rel, List.getD_cons_zero, List.getD_cons_succ, Act.put, List.setIfInBounds_toArray, List.set_cons_zero, List.set_cons_succ] at hK
              try simp only [hd] at hK
              first | (obtain ⟨e0', _⟩ := hd) | (have e0' := hd)
              try simp only [e0'] at hK ⊢
              go_simp
              refine (hri _).mono ?_
              rintro e w5 ⟨rfl, hb5⟩
              refine hK.out _ _ ⟨⟨hS.1.below hb5, ?_, bt hS.2.2 hb5⟩, trivial, rfl⟩
              exact hS.2.1.below hb5
            · intro L hL hcl v u hS hd K' hK
              simp only [waited, List.toList_toArray, Region.binds, rel, List.getD_cons_zero, List.getD_cons_succ, true_imp_iff, and_true] at hd
              simp only [rel, List.getD_cons_zero, List.getD_cons_succ, Act.put, List.setIfInBounds_toArray, List.set_cons_zero, List.set_cons_succ] at hK
              try simp only [hd] at hK
              go_simp
              exact hK.out _ _ ⟨hS, trivial, rfl⟩
            · intro L hL hcl v u hS hd K' hK
              simp only [waited, List.toList_toArray, Region.binds, rel, List.getD_cons_zero, List.getD_cons_succ, true_imp_iff, and_true] at hd
              simp only [rel, List.getD_cons_zero, List.getD_cons_succ, Act.put, List.setIfInBounds_toArray, List.set_cons_zero, List.set_cons_succ] at hK
              try simp only [hd] at hK
              have hS' := hS
              rw [hL] at hS'
              have h1 : Blk u w.heap.size [.int .u8 0, .string ⟨#[]⟩, .string ⟨#[]⟩, .string ⟨#[]⟩, .string ⟨#[]⟩] 28 := hS'.2.1
              have x0 := h1.cell 0
              have x1 := h1.cell 1
              have x2 := h1.cell 2
              have x3 := h1.cell 3
              have x4 := h1.cell 4
              have f0 := h1.free 0
              have f1 := h1.free 1
              have f2 := h1.free 2
              have f3 := h1.free 3
              have f4 := h1.free 4
              first | (obtain ⟨e0', _⟩ := hd) | (have e0' := hd)
              try simp only [e0'] at hK ⊢
              go_simp
              exact hK.out undef _ ⟨⟨(((((hS'.1.far (p := ⟨w.heap.size, 0, none⟩) (by show (w.heap.size + 1) ≠ w.heap.size; omega) (.int .u8 (k.toNat : Int))).far (p := ⟨w.heap.size, 1, none⟩) (by show (w.heap.size + 1) ≠ w.heap.size; omega) (.string a)).far (p := ⟨w.heap.size, 2, none⟩) (by show (w.heap.size + 1) ≠ w.heap.size; omega) (.string b)).far (p := ⟨w.heap.size, 3, none⟩) (by show (w.heap.size + 1) ≠ w.heap.size; omega) (.string c)).far (p := ⟨w.heap.size, 4, none⟩) (by show (w.heap.size + 1) ≠ w.heap.size; omega) (.string d)), (((((hS'.2.1.set 0 (.int .u8 (k.toNat : Int))).set 1 (.string a)).set 2 (.string b)).set 3 (.string c)).set 4 (.string d)), (((((hS'.2.2.setCell (p := ⟨w.heap.size, 0, none⟩) (Nat.le_refl _) (.int .u8 (k.toNat : Int))).setCell (p := ⟨w.heap.size, 1, none⟩) (Nat.le_refl _) (.string a)).setCell (p := ⟨w.heap.size, 2, none⟩) (Nat.le_refl _) (.string b)).setCell (p := ⟨w.heap.size, 3, none⟩) (Nat.le_refl _) (.string c)).setCell (p := ⟨w.heap.size, 4, none⟩) (Nat.le_refl _) (.string d))⟩, trivial, trivial⟩
            · intro L hL hcl v u hS hd K' hK
              simp only [waited, List.toList_toArray, Region.binds, rel, List.getD_cons_zero, List.getD_cons_succ, true_imp_iff, and_true] at hd
              simp only [rel, List.getD_cons_zero, List.getD_cons_succ, Act.put, List.setIfInBounds_toArray, List.set_cons_zero, List.set_cons_succ] at hK
              try simp only [hd] at hK
              go_simp
              exact hK.out _ _ ⟨hS, trivial, rfl⟩
            · intro L hL hcl v u hS hd K' hK
              simp only [waited, List.toList_toArray, Region.binds, rel, List.getD_cons_zero, List.getD_cons_succ, true_imp_iff, and_true] at hd
              simp only [rel, List.getD_cons_zero, List.getD_cons_succ, Act.put, List.setIfInBounds_toArray, List.set_cons_zero, List.set_cons_succ] at hK
              try simp only [hd] at hK
              go_simp
              exact hK.out _ _ ⟨hS, trivial, rfl⟩
          · rintro v u hS hR
            simp only [holdAll, List.size_toArray, List.length_cons, List.length_nil, Nat.reduceAdd, rel, List.getD_cons_zero, List.getD_cons_succ] at hR
            obtain ⟨⟨-, e8⟩, e9⟩ := hR
            simp only [e8, e9]
            clear e8 e9
            obtain ⟨hC8, k6, hb6⟩ := hS
            replace k6 : Blk u w.heap.size [.int .u8 (k.toNat : Int), .string a, .string b, .string c, .string d] 28 := k6
            clear hC8 hC9 hR9 hb9 hD9
            go_wp2
            have y0 := k6.cell 0
            have y1 := k6.cell 1
            have y2 := k6.cell 2
            have y3 := k6.cell 3
            have y4 := k6.cell 4
            refine bodyPost_ret (v := .tuple #[.agg #[.int .u8 (k.toNat : Int), .string a, .string b, .string c, .string d], .string (str ps), .bool qr]) (by simp [results, Try.results46, go_sem, y0, y1, y2, y3, y4]) rfl ?_
            exact ⟨by first | rfl | (rw [hqr.out]; rfl), hb6⟩
        | false =>
          refine region_flatS _ (fun L u => Blk u (w.heap.size + 1) [.int .u8 (k.toNat : Int), .string a, .string b, .string c, .string d] 28 ∧ Blk u w.heap.size (cond (L 7) [.int .u8 (k.toNat : Int), .string a, .string b, .string c, .string d] [.int .u8 0, .string ⟨#[]⟩, .string ⟨#[]⟩, .string ⟨#[]⟩, .string ⟨#[]⟩]) 28 ∧ Below w.heap.size w u) (fun _ _ _ => True)
            (fun _ => rel [fun v _ => v = .agg #[.int .u8 (k.toNat : Int), .string a, .string b, .string c, .string d],
              fun v _ => v = .string (str ps),
              fun v _ => v = .bool false,
              fun v _ => v = .bool false,
              fun _ _ => True,
              fun _ _ => True,
              fun v _ => v = .bool false,
              fun _ _ => True,
              fun v _ => v = .string (str ps),
              fun v _ => v = .bool false])
            (by kernel_rfl) (by kernel_rfl) (fun v => by simp only [putsV, Act.put, List.toList_toArray, List.setIfInBounds_toArray, List.set_cons_zero, List.set_cons_succ, Nat.reduceAdd, Nat.zero_add]; rfl) ?_ (fun _ _ _ _ _ h => h) ⟨hC9, hR9, hD9⟩ ?_ (fun _ _ _ _ _ _ h => h) (fun L L' u hL h => by rw [← hL 7 (by decide)]; exact h) ?_
          · intro i L j x u u' _ _ hG h
            match j with
            | 0 => exact h
            | 1 => exact h
            | 2 => exact h
            | 3 => exact h
            | 4 => exact h
            | 5 => exact h
            | 6 => exact h
            | 7 => exact h
            | 8 => exact h
            | 9 => exact h
            | _ + 10 => trivial
          · refine ⟨?_, ?_, ?_, ?_, ?_, ?_, ?_, ?_, ?_, ?_, trivial⟩
            · intro L hL hcl v u hS hd K' hK
              simp only [waited, List.toList_toArray, Region.binds, rel, List.getD_cons_zero, List.getD_cons_succ, true_imp_iff, and_true] at hd
              simp only [rel, List.getD_cons_zero, List.getD_cons_succ, Act.put, List.setIfInBounds_toArray, List.set_cons_zero, List.set_cons_succ] at hK
              try simp only [hd] at hK
              have x0 := hS.1.cell
              go_simp
              exact hK.out _ _ ⟨hS, trivial, rfl⟩
            · intro L hL hcl v u hS hd K' hK
              simp only [waited, List.toList_toArray, Region.binds, rel, List.getD_cons_zero, List.getD_cons_succ, true_imp_iff, and_true] at hd
              simp only [rel, List.getD_cons_zero, List.getD_cons_succ, Act.put, List.setIfInBounds_toArray, List.set_cons_zero, List.set_cons_succ] at hK
              try simp only [hd] at hK
              go_simp
              exact hK.out _ _ ⟨hS, trivial, rfl⟩
            · intro L hL hcl v u hS hd K' hK
              simp only [waited, List.toList_toArray, Region.binds, rel, List.getD_cons_zero, List.getD_cons_succ, true_imp_iff, and_true] at hd
              simp only [rel, List.getD_cons_zero, List.getD_cons_succ, Act.put, List.setIfInBounds_toArray, List.set_cons_zero, List.set_cons_succ] at hK
              try simp only [hd] at hK
              go_simp
              exact hK.out _ _ ⟨hS, trivial, rfl⟩
            · intro L hL hcl v u hS hd K' hK
              simp only [waited, List.toList_toArray, Region.binds, rel, List.getD_cons_zero, List.getD_cons_succ, true_imp_iff, and_true] at hd
              simp only [rel, List.getD_cons_zero, List.getD_cons_succ, Act.put, List.setIfInBounds_toArray, List.set_cons_zero, List.set_cons_succ] at hK
              try simp only [hd] at hK
              go_simp
              exact hK.out _ _ ⟨hS, trivial, rfl⟩
            · intro L hL hcl v u hS hd K' hK
              simp only [waited, List.toList_toArray, Region.binds, rel, List.getD_cons_zero, List.getD_cons_succ, true_imp_iff, and_true] at hd
              simp only [rel, List.getD_cons_zero, List.getD_cons_succ, Act.put, List.setIfInBounds_toArray, List.set_cons_zero, List.set_cons_succ] at hK
              try simp only [hd] at hK
              go_simp
              exact hK.out _ _ ⟨hS, trivial, trivial⟩
            · intro L hL hcl v u hS hd K' hK
              simp only [waited, List.toList_toArray, Region.binds, rel, List.getD_cons_zero, List.getD_cons_succ, true_imp_iff, and_true] at hd
              simp only [rel, List.getD_cons_zero, List.getD_cons_succ, Act.put, List.setIfInBounds_toArray, List.set_cons_zero, List.set_cons_succ] at hK
              try simp only [hd] at hK
              go_simp
              exact hK.out _ _ ⟨hS, trivial, trivial⟩
            · intro L hL hcl v u hS hd K' hK
              simp only [waited, List.toList_toArray, Region.binds, rel, List.getD_cons_zero, List.getD_cons_succ, true_imp_iff, and_true] at hd
              simp only [rel, List.getD_cons_zero, List.getD_cons_succ, Act.put, List.setIfInBounds_toArray, List.set_cons_zero, List.set_cons_succ] at hK
              try simp only [hd] at hK
              go_simp
              exact hK.out _ _ ⟨hS, trivial, rfl⟩
            · intro L hL hcl v u hS hd K' hK
              simp only [waited, List.toList_toArray, Region.binds, rel, List.getD_cons_zero, List.getD_cons_succ, true_imp_iff, and_true] at hd
              simp only [rel, List.getD_cons_zero, List.getD_cons_succ, Act.put, List.setIfInBounds_toArray, List.set_cons_zero, List.set_cons_succ] at hK
              try simp only [hd] at hK
              have hS' := hS
              rw [hL] at hS'
              have h1 : Blk u w.heap.size [.int .u8 0, .string ⟨#[]⟩, .string ⟨#[]⟩, .string ⟨#[]⟩, .string ⟨#[]⟩] 28 := hS'.2.1
              have x0 := h1.cell 0
              have x1 := h1.cell 1
              have x2 := h1.cell 2
              have x3 := h1.cell 3
              have x4 := h1.cell 4
              have f0 := h1.free 0
              have f1 := h1.free 1
              have f2 := h1.free 2
              have f3 := h1.free 3
              have f4 := h1.free 4
              first | (obtain ⟨e0', _⟩ := hd) | (have e0' := hd)
              try simp only [e0'] at hK ⊢
              go_simp
              exact hK.out undef _ ⟨⟨(((((hS'.1.far (p := ⟨w.heap.size, 0, none⟩) (by show (w.heap.size + 1) ≠ w.heap.size; omega) (.int .u8 (k.toNat : Int))).far (p := ⟨w.heap.size, 1, none⟩) (by show (w.heap.size + 1) ≠ w.heap.size; omega) (.string a)).far (p := ⟨w.heap.size, 2, none⟩) (by show (w.heap.size + 1) ≠ w.heap.size; omega) (.string b)).far (p := ⟨w.heap.size, 3, none⟩) (by show (w.heap.size + 1) ≠ w.heap.size; omega) (.string c)).far (p := ⟨w.heap.size, 4, none⟩) (by show (w.heap.size + 1) ≠ w.heap.size; omega) (.string d)), (((((hS'.2.1.set 0 (.int .u8 (k.toNat : Int))).set 1 (.string a)).set 2 (.string b)).set 3 (.string c)).set 4 (.string d)), (((((hS'.2.2.setCell (p := ⟨w.heap.size, 0, none⟩) (Nat.le_refl _) (.int .u8 (k.toNat : Int))).setCell (p := ⟨w.heap.size, 1, none⟩) (Nat.le_refl _) (.string a)).setCell (p := ⟨w.heap.size, 2, none⟩) (Nat.le_refl _) (.string b)).setCell (p := ⟨w.heap.size, 3, none⟩) (Nat.le_refl _) (.string c)).setCell (p := ⟨w.heap.size, 4, none⟩) (Nat.le_refl _) (.string d))⟩, trivial, trivial⟩
            · intro L hL hcl v u hS hd K' hK
              simp only [waited, List.toList_toArray, Region.binds, rel, List.getD_cons_zero, List.getD_cons_succ, true_imp_iff, and_true] at hd
              simp only [rel, List.getD_cons_zero, List.getD_cons_succ, Act.put, List.setIfInBounds_toArray, List.set_cons_zero, List.set_cons_succ] at hK
              try simp only [hd] at hK
              go_simp
              exact hK.out _ _ ⟨hS, trivial, rfl⟩
            · intro L hL hcl v u hS hd K' hK
              simp only [waited, List.toList_toArray, Region.binds, rel, List.getD_cons_zero, List.getD_cons_succ, true_imp_iff, and_true] at hd
              simp only [rel, List.getD_cons_zero, List.getD_cons_succ, Act.put, List.setIfInBounds_toArray, List.set_cons_zero, List.set_cons_succ] at hK
              try simp only [hd] at hK
              go_simp
              exact hK.out _ _ ⟨hS, trivial, rfl⟩
          · rintro v u hS hR
            simp only [holdAll, List.size_toArray, List.length_cons, List.length_nil, Nat.reduceAdd, rel, List.getD_cons_zero, List.getD_cons_succ] at hR
            obtain ⟨⟨-, e8⟩, e9⟩ := hR
            simp only [e8, e9]
            clear e8 e9
            obtain ⟨hC8, k6, hb6⟩ := hS
            replace k6 : Blk u w.heap.size [.int .u8 (k.toNat : Int), .string a, .string b, .string c, .string d] 28 := k6
            clear hC8 hC9 hR9 hb9 hD9
            go_wp2
            have y0 := k6.cell 0
            have y1 := k6.cell 1
            have y2 := k6.cell 2
            have y3 := k6.cell 3
            have y4 := k6.cell 4
            refine bodyPost_ret (v := .tuple #[.agg #[.int .u8 (k.toNat : Int), .string a, .string b, .string c, .string d], .string (str ps), .bool false]) (by simp [results, Try.results46, go_sem, y0, y1, y2, y3, y4]) rfl ?_
            exact ⟨by first | rfl | (rw [hqr.out]; rfl), hb6⟩
theorem refOne_w (l : List UInt8) (w : World) (hl : l.length ≤ 140737488351232) :
    Calls Try.prog 46 #[.string (str l)] w fun e w' => e = .returned (.tuple #[.agg (chCells (oneL l).1).toArray, .string (str (oneL l).2.1), .bool (oneL l).2.2]) ∧ Below w.heap.size w w' := by
  match l with
  | [] => exact refOne_0 w
  | k :: r => exact refOne_k k r w (by simp at hl; omega)
end Go.Proofs.Ytiodfbbgbnbdpaa
end
section
/- lictorref16.Some, Unpack. -/
namespace Go.Proofs.Ytiodfbbgbnbdpaa
set_option linter.unusedSimpArgs false
set_option linter.unusedVariables false
open Go.RowKit
open Crc
theorem own_nil (w : World) (b n : Nat) (t : TypeId) : w.ownsRow b t n (.slice none 0 0) 0 [] := ⟨by simp, .inl ⟨rfl, rfl⟩⟩
def someR (l : List UInt8) : List Chg × List UInt8 := (someL l).getD ([], [])
set_option maxRecDepth 100000 in
set_option maxHeartbeats 1000000 in
theorem refSome_w (l : List UInt8) (w : World) (hl : l.length ≤ 140737488351232) :
    Calls Try.prog 40 #[.string (str l)] w fun e w' => (∃ v, e = .returned (.tuple #[v, .string (str (someR l).2), .bool (someL l).isSome]) ∧ w'.ownsRow w.heap.size 28 5 v (someR l).1.length (chsCells (someR l).1)) ∧ Below w.heap.size w w' := by
  match l with
  | [] =>
    have hs := str_empty []
    rw [decide_eq_true rfl] at hs
    obtain ⟨S, hS⟩ := named (str [])
    rw [← hS.out] at hs
    have hfin : ∀ w' : World, Below w.heap.size w w' → (∃ v, Ending.returned (.tuple #[.slice none 0 0, .string ⟨#[]⟩, .bool false]) = .returned (.tuple #[v, .string (str (someR []).2), .bool (someL []).isSome]) ∧ w'.ownsRow w.heap.size 28 5 v (someR []).1.length (chsCells (someR []).1)) ∧ Below w.heap.size w w' := fun w' hb => ⟨⟨_, rfl, own_nil _ _ _ _⟩, hb⟩
    rw [← hS.out]
    clear hS
    go_enter Try.func40, Try.ntmps40
    go_wp2
    go_ret3
    exact hfin _ (Below.refl _ _)
  | k :: r =>
  have hlr : r.length ≤ 140737488351232 := by simp at hl; omega
  obtain ⟨i0, hi, hz0, hz1, hz2⟩ := info_parts Try.info28
  have g1 := str_cons_size k r
  have g2 := str_cons_get k r
  have g3 := str_cons_drop k r
  have g4 := str_empty (k :: r)
  rw [decide_eq_false (by simp)] at g4
  have hn255 : k.toNat < 256 := k.toNat_lt
  have hwk : IntKind.i64.wrap (k.toNat : Int) = (k.toNat : Int) := by simp [IntKind.wrap, IntKind.bits, IntKind.signed]; omega
  have hsl : someL (k :: r) = stepsL k.toNat r := rfl
  have hno : stepsL k.toNat r = none → ∀ w' : World, Below w.heap.size w w' → (∃ v, Ending.returned (.tuple #[.slice none 0 0, .string ⟨#[]⟩, .bool false]) = .returned (.tuple #[v, .string (str (someR (k :: r)).2), .bool (someL (k :: r)).isSome]) ∧ w'.ownsRow w.heap.size 28 5 v (someR (k :: r)).1.length (chsCells (someR (k :: r)).1)) ∧ Below w.heap.size w w' := fun h w' hb => by
    unfold someR
    rw [hsl, h]
    exact ⟨⟨_, rfl, own_nil _ _ _ _⟩, hb⟩
  have hyes : ∀ D r', stepsL k.toNat r = some (D, r') → ∀ (v : Value) (w' : World), w'.ownsRow w.heap.size 28 5 v D.length (chsCells D) → Below w.heap.size w w' → (∃ u, Ending.returned (.tuple #[v, .string (str r'), .bool true]) = .returned (.tuple #[u, .string (str (someR (k :: r)).2), .bool (someL (k :: r)).isSome]) ∧ w'.ownsRow w.heap.size 28 5 u (someR (k :: r)).1.length (chsCells (someR (k :: r)).1)) ∧ Below w.heap.size w w' := fun D r' h v w' ho hb => by
    unfold someR
    rw [hsl, h]
    exact ⟨⟨_, rfl, ho⟩, hb⟩
  obtain ⟨n0, hn0⟩ := named k.toNat
  rw [← hn0.out] at hn255 hwk hno hyes
  obtain ⟨S, hS⟩ := named (str (k :: r))
  rw [← hS.out] at g1 g2 g3 g4 ⊢
  rw [g1] at g3
  obtain ⟨rv, hrv⟩ := named (someR (k :: r))
  obtain ⟨ov, hov⟩ := named (someL (k :: r)).isSome
  rw [← hrv.out, ← hov.out]
  simp only [← hrv.out, ← hov.out] at hno hyes
  have HNO := hide hno
  have HYES := hide hyes
  rw [hn0.out] at hwk
  clear hS hl hsl hno hyes hrv hov
  go_enter Try.func40, Try.ntmps40
  go_upto_region 7 with fail
  rw [show (k.toNat : Int) = (n0 : Int) by rw [hn0.out]]
  clear g1 g2 g3 g4 hwk hn0
  go_loopw [6, 7, 0] (fun v i s wr => ∃ (j : Nat) (D : List Chg) (q : List UInt8), i = .int .i64 (j : Int) ∧ j ≤ n0 ∧ s = .string (str q) ∧ Hid (stepsL j r = some (D, q)) ∧ wr.ownsRow w.heap.size 28 5 v D.length (chsCells D) ∧ Below w.heap.size w wr) (fun _ i _ _ => n0 - (intOf i).toNat)
  case atStart => exact ⟨0, [], r, rfl, by omega, rfl, hide rfl, own_nil _ _ _ _, Below.refl _ _⟩
  case round =>
    obtain ⟨j, D, q, rfl, hjn, rfl, hst, hown, hb⟩ := hrel
    obtain ⟨A0, cc, rfl, _⟩ := Lies.of_own hown
    by_cases hj : j < n0
    · have hjI : (j : Int) < (n0 : Int) := by omega
      have hDl := Nat.le_of_eq (stepsL_yes hst.out).1
      have hql := (stepsL_yes hst.out).2
      have hone := refOne_w q wr (by omega)
      have hnx := fun h => stepsL_next hst.out h
      have hsp := fun h => stepsL_no (n := n0) (stepsL_stop hst.out h) hj
      obtain ⟨P, hP⟩ := named (oneL q)
      simp only [← hP.out] at hone hnx hsp
      clear hP
      obtain ⟨⟨qk, qi, qt, qu, qv⟩, q', po⟩ := P
      simp only [chCells] at hone hnx hsp
      have HNX := hide hnx
      have HSP := hide hsp
      clear hnx hsp
      go_wp2_with fail
      refine hone.mono ?_
      rintro e w2 ⟨rfl, hb2⟩
      have ho2 := own_below hown hb2
      have hb3 := bt hb hb2
      have hC := Blk.new w2 [.int .u8 (qk.toNat : Int), .string qi, .string qt, .string qu, .string qv] 28
      have ho4 := own_below ho2 (below_alloc w2 (.cells #[.int .u8 (qk.toNat : Int), .string qi, .string qt, .string qu, .string qv] 28))
      have hb4 := bt hb3 (below_alloc w2 (.cells #[.int .u8 (qk.toNat : Int), .string qi, .string qt, .string qu, .string qv] 28))
      clear hone hown hb hb2 ho2 hb3
      go_upto_region 10 with fail
      obtain ⟨C, hCn⟩ := named w2.heap.size
      obtain ⟨w4, hw4⟩ := named (w2.alloc (.cells #[.int .u8 (qk.toNat : Int), .string qi, .string qt, .string qu, .string qv] 28))
      rw [← hCn.out] at hC ⊢
      rw [← hw4.out] at hC ho4 hb4 ⊢
      clear hCn hw4
      cases po with
      | false =>
        have hfin := HNO.out (HSP.out rfl) w4 hb4
        clear HNX hC ho4 hb4 hi hz0 hz1 hz2
        go_wp2
        go_ret3
        exact hfin
      | true =>
        have HN := hide (HNX.out rfl)
        have hb9 := below_alloc w4 (.cells #[.int .u8 (qk.toNat : Int), .string qi, .string qt, .string qu, .string qv] 28)
        have ho9 := own_below ho4 hb9
        have hN9 := Blk.new w4 [.int .u8 (qk.toNat : Int), .string qi, .string qt, .string qu, .string qv] 28
        have hb5 := bt hb4 hb9
        have xC := hC.cell
        have hs9 := hb5.size
        have hnews : ∀ j u, ([.int .u8 (qk.toNat : Int), .string qi, .string qt, .string qu, .string qv] : List Value)[j]? = some u → (w4.alloc (.cells #[.int .u8 (qk.toNat : Int), .string qi, .string qt, .string qu, .string qv] 28)).cell? ((⟨w4.heap.size, 0, none⟩ : Addr).add j) = some u := fun j u hj => by
          rw [addr_add, Nat.zero_add, hN9.cell]
          exact hj
        have hone : ∀ u ∈ ([.int .u8 (qk.toNat : Int), .string qi, .string qt, .string qu, .string qv] : List Value), u.oneCell' = true := by
          intro u hu; simp at hu; rcases hu with rfl | rfl | rfl | rfl | rfl <;> rfl
        have HNW := hide hnews
        have HON := hide hone
        clear hnews hone HNX HSP ho4 hb4 hC hN9
        go_wp2_with (at_builtin; refine wpList_append_own _ rfl _ _ 65 rfl w.heap.size 28 i0 (.agg #[.int .u8 0, .string ⟨#[]⟩, .string ⟨#[]⟩, .string ⟨#[]⟩, .string ⟨#[]⟩]) 5 72 Try.underlying65 hi hz0 hz1 hz2 rfl (by decide) _ _ _ rfl ho9 ⟨w4.heap.size, 0, none⟩ 1 1 [.int .u8 (qk.toNat : Int), .string qi, .string qt, .string qu, .string qv] rfl rfl HNW.out HON.out ?c3 ?c4 ?c5 ?_)
        case c3 => unfold maxLen; omega
        case c4 => omega
        case c5 => omega
        intro v' w10 hown' hgrow _
        have hown2 : w10.ownsRow w.heap.size 28 5 v' (D ++ [(⟨qk, qi, qt, qu, qv⟩ : Chg)]).length (chsCells (D ++ [(⟨qk, qi, qt, qu, qv⟩ : Chg)])) := by
          rw [chsCells_append, List.length_append]
          exact hown'
        have hb10 : Below w.heap.size w w10 := hb5.grown hgrow (by omega) (fun i e => (ho9.lt i e).1)
        clear HNW HON xC hb9 hb5 ho9 hgrow hown'
        go_wp2
        go_roundw
        case rel => exact ⟨j + 1, _, q', by first | rfl | go_num, by omega, rfl, HN, hown2, hb10⟩
        case measure => simp [intOf]; omega
    · obtain rfl : j = n0 := by omega
      have hfin := HYES.out D q hst.out _ wr hown hb
      clear hown hb hi hz0 hz1 hz2 hst HNO HYES
      go_wp2
      go_ret3
      exact hfin
def unpE (l : List UInt8) : Int := if (unpackL l).isSome then 0 else 14
def unpR (l : List UInt8) : List Chg := (unpackL l).getD []
set_option maxRecDepth 100000 in
set_option maxHeartbeats 1000000 in
theorem refUnpack_w (l : List UInt8) (w : World) (hl : l.length ≤ 140737488351232) :
    Calls Try.prog 28 #[.string (str l)] w fun e w' => (∃ v, e = .returned (.tuple #[v, .int .i64 (unpE l)]) ∧ w'.ownsRow w.heap.size 28 5 v (unpR l).length (chsCells (unpR l))) ∧ Below w.heap.size w w' := by
  have hS := refSome_w l w hl
  have hun : unpackL l = match someL l with | some (cs, []) => some cs | _ => none := rfl
  have hno : unpackL l = none → ∀ w' : World, Below w.heap.size w w' → (∃ v, Ending.returned (.tuple #[.slice none 0 0, .int .i64 14]) = .returned (.tuple #[v, .int .i64 (unpE l)]) ∧ w'.ownsRow w.heap.size 28 5 v (unpR l).length (chsCells (unpR l))) ∧ Below w.heap.size w w' := fun h w' hb => by
    unfold unpE unpR
    rw [h]
    exact ⟨⟨_, rfl, own_nil _ _ _ _⟩, hb⟩
  have hyes : ∀ D, unpackL l = some D → ∀ (v : Value) (w' : World), w'.ownsRow w.heap.size 28 5 v D.length (chsCells D) → Below w.heap.size w w' → (∃ u, Ending.returned (.tuple #[v, .int .i64 0]) = .returned (.tuple #[u, .int .i64 (unpE l)]) ∧ w'.ownsRow w.heap.size 28 5 u (unpR l).length (chsCells (unpR l))) ∧ Below w.heap.size w w' := fun D h v w' ho hb => by
    unfold unpE unpR
    rw [h]
    exact ⟨⟨_, rfl, ho⟩, hb⟩
  have hsr : someR l = (someL l).getD ([], []) := rfl
  have hse : ∀ q, ((str q).toList == []) = decide (q = []) := str_empty
  obtain ⟨F, hF⟩ := named (someL l)
  obtain ⟨G, hG⟩ := named (unpackL l)
  rw [← hF.out] at hS hun hsr
  rw [← hG.out] at hun hno hyes
  rw [hsr] at hS
  obtain ⟨N1, hN1⟩ := named (str l)
  rw [← hN1.out] at hS ⊢
  obtain ⟨ue, hue⟩ := named (unpE l)
  obtain ⟨ur, hur⟩ := named (unpR l)
  rw [← hue.out, ← hur.out] at hno hyes ⊢
  clear hF hG hN1 hl hsr hue hur
  have HNO := hide hno
  have HYES := hide hyes
  clear hno hyes
  match F, hun, hS with
  | none, hun, hS =>
    simp only [Option.isSome_none, Option.getD_none] at hS
    have HUN := hide hun
    clear hun hse
    go_enter Try.func28, Try.ntmps28
    go_wp2_with fail
    refine hS.mono ?_
    rintro e w1 ⟨⟨v, rfl, ho⟩, hb⟩
    have hfin := HNO.out HUN.out w1 hb
    clear hS ho hb
    go_wp2
    go_ret2
    exact hfin
  | some (D, []), hun, hS =>
    simp only [Option.isSome_some, Option.getD_some] at hS
    have HUN := hide hun
    clear hun
    have hq := hse []
    rw [decide_eq_true rfl] at hq
    obtain ⟨Z, hZ⟩ := named (str [])
    rw [← hZ.out] at hq hS
    clear hZ hse
    go_enter Try.func28, Try.ntmps28
    go_wp2_with fail
    refine hS.mono ?_
    rintro e w1 ⟨⟨v, rfl, ho⟩, hb⟩
    have hfin := HYES.out D HUN.out v w1 ho hb
    clear hS ho hb
    go_wp2
    go_ret2
    exact hfin
  | some (D, c :: q), hun, hS =>
    simp only [Option.isSome_some, Option.getD_some] at hS
    have HUN := hide hun
    clear hun
    have hq := hse (c :: q)
    rw [decide_eq_false (by simp)] at hq
    obtain ⟨Z, hZ⟩ := named (str (c :: q))
    rw [← hZ.out] at hq hS
    clear hZ hse
    go_enter Try.func28, Try.ntmps28
    go_wp2_with fail
    refine hS.mono ?_
    rintro e w1 ⟨⟨v, rfl, ho⟩, hb⟩
    have hfin := HNO.out HUN.out w1 hb
    clear hS ho hb
    go_wp2
    go_ret2
    exact hfin
end Go.Proofs.Ytiodfbbgbnbdpaa
end
