/- value.size of any value. -/
import Derived.Test.YtmnfmgoolimlmaaDoorVCmp
import Derived.Test.YtmnfmgoolimlmaaDoorUid
import Derived.Test.YtmnfmgoolimlmaaDoorGF
import Derived.Test.YtmnfmgoolimlmaaDoorVSize1
namespace Go.Proofs.YtmnfmgoolimlmaaDoor
set_option linter.unusedSimpArgs false
set_option linter.unusedVariables false
open Go.RowKit
/-- What its kind leaves of a value, and whether that is right. -/
def bareV (k : Nat) (b : Bool) (n : Int) (s t : ByteArray) (nl ll : Nat) : Bool × Bool × Int × ByteArray × ByteArray :=
  if k = 0 then (true, b, 0, ⟨#[]⟩, ⟨#[]⟩) else if k = 1 then (true, false, n, ⟨#[]⟩, ⟨#[]⟩) else
  if k = 2 then (decide (s.size ≤ 256) && Lib.validD s.data.toList, false, 0, s, ⟨#[]⟩) else
  if k = 3 then (uidE t s == 0, false, 0, s, t) else
  if k = 4 then (decide (nl = 0), false, 0, ⟨#[]⟩, ⟨#[]⟩) else if k = 5 then (decide (nl = ll), false, 0, ⟨#[]⟩, ⟨#[]⟩) else (false, false, 0, ⟨#[]⟩, ⟨#[]⟩)
/-- Whether all of a value but its parts is right. -/
def topV (k : Nat) (b : Bool) (n : Int) (s t : ByteArray) (nl ll : Nat) : Bool :=
  let z := bareV k b n s t nl ll
  z.1 && (b == z.2.1) && (n == z.2.2.1) && (s.toList == z.2.2.2.1.toList) && (t.toList == z.2.2.2.2.toList) && (decide (k = 4 ∨ k = 5) || decide (ll + nl = 0)) && decide (ll ≤ 16)
/-- A record's name. -/
def nmOk (pn : Option ByteArray) (a : ByteArray) : Bool :=
  !a.toList.isEmpty && decide (a.size ≤ 64) && Lib.validD a.data.toList && (match pn with | none => true | some p => Op.bytesLess p.toList a.toList)
def extra (k : Nat) (ns : List ByteArray) (pn : Option ByteArray) (pv : Option Vt) (x : Vt) : Bool :=
  if k = 4 then (match pv with | none => true | some p => decide (cmpV p x < 0)) else
  if k = 5 then (match ns with | [] => true | a :: _ => nmOk pn a) else true
mutual
/-- How deep, how many, whether right. -/
def sizeT : Vt → Int × Int × Bool
  | .mk k b n s t ns l =>
    let z := loopV k ns none none (0, 0, topV k b n s t ns.length l.length) l
    (wrap64 (z.1 + 1), wrap64 (z.2.1 + 1), z.2.2)
def loopV (k : Nat) : List ByteArray → Option ByteArray → Option Vt → Int × Int × Bool → List Vt → Int × Int × Bool
  | _, _, _, st, [] => st
  | ns, pn, pv, st, x :: l =>
    if st.2.2 = false then st else loopV k ns.tail ns.head? (some x) (max st.1 (sizeT x).1, wrap64 (st.2.1 + (sizeT x).2.1), (sizeT x).2.2 && extra k ns pn pv x) l
end
/-- What the loop's end makes. -/
def finS (z : Int × Int × Bool) : Int × Int × Bool := (wrap64 (z.1 + 1), wrap64 (z.2.1 + 1), z.2.2)
def pnAt (ns : List ByteArray) (i : Nat) : Option ByteArray := if i = 0 then none else ns[i - 1]?
def pvAt (l : List Vt) (i : Nat) : Option Vt := if i = 0 then none else l[i - 1]?
theorem loop_stop (k : Nat) (ns : List ByteArray) (pn : Option ByteArray) (pv : Option Vt) (d c : Int) (l : List Vt) : loopV k ns pn pv (d, c, false) l = (d, c, false) := by
  cases l with
  | nil => rw [loopV]
  | cons x l => rw [loopV]; simp
theorem loop_end (k : Nat) (ns : List ByteArray) (pn : Option ByteArray) (pv : Option Vt) (st : Int × Int × Bool) {l : List Vt} {i : Nat} (h : l.length ≤ i) : loopV k ns pn pv st (l.drop i) = st := by
  rw [List.drop_eq_nil_of_le h, loopV]
theorem loop_step (k : Nat) (ns : List ByteArray) (d c : Int) {l : List Vt} {i : Nat} {x : Vt} (h : l[i]? = some x) :
    loopV k (ns.drop i) (pnAt ns i) (pvAt l i) (d, c, true) (l.drop i) = loopV k (ns.drop (i + 1)) (pnAt ns (i + 1)) (pvAt l (i + 1)) (max d (sizeT x).1, wrap64 (c + (sizeT x).2.1), (sizeT x).2.2 && extra k (ns.drop i) (pnAt ns i) (pvAt l i) x) (l.drop (i + 1)) := by
  obtain ⟨hi, rfl⟩ := List.getElem?_eq_some_iff.1 h
  rw [List.drop_eq_getElem_cons hi, loopV]
  simp only [Bool.true_eq_false, if_false, List.tail_drop, List.head?_drop]
  unfold pnAt pvAt
  simp only [Nat.add_eq_zero_iff, Nat.one_ne_zero, and_false, if_false, Nat.add_sub_cancel, List.getElem?_eq_getElem hi]
set_option maxRecDepth 100000 in
set_option maxHeartbeats 4000000 in
theorem size_n : ∀ (N : Nat) (x : Vt), x.ht ≤ N → ∀ (bx : Nat) (r : List Value) (w : World), VAt w bx x r → Tb w →
    Calls Tryd.prog 47 #[.agg r.toArray] w fun e w' => e = .returned (.tuple #[.int .i64 (sizeT x).1, .int .i64 (sizeT x).2.1, .bool (sizeT x).2.2]) ∧ Below w.heap.size w w' := by
  intro N
  induction N with
  | zero => intro x h; cases x; rw [Vt.ht] at h; omega
  | succ N ih =>
    intro x hht bx r w hx htab
    obtain ⟨k, b, n, s, t, ns, l⟩ := x
    rw [Vt.ht] at hht
    rw [VAt] at hx
    obtain ⟨A, ca, B, cb, rows, rfl, ⟨hk256, hn1, hn2, hs, ht⟩, hTa, hnsz, ⟨hna, -, hla, -⟩, -, hLa, hVa⟩ := hx
    unfold mLen at hs ht hna hla
    have k1 := Blk.new w (vRow k b n s t (.slice A ns.length ca) (.slice B l.length cb)) 37
    have b1 := below_alloc w (.cells (vRow k b n s t (.slice A ns.length ca) (.slice B l.length cb)).toArray 37)
    have hs1 : (w.alloc (.cells (vRow k b n s t (.slice A ns.length ca) (.slice B l.length cb)).toArray 37)).heap.size = w.heap.size + 1 := Array.size_push _
    obtain ⟨W1, HW1⟩ := named (w.alloc (.cells (vRow k b n s t (.slice A ns.length ca) (.slice B l.length cb)).toArray 37))
    have hval : ∀ W, Below w.heap.size w W → Calls Tryd.prog 31 #[.string s] W fun e w' => e = .returned (.bool (Lib.validD s.data.toList)) ∧ Below W.heap.size W w' := fun W hW => valid_w s W hs (htab.below hW)
    have huid : ∀ W, Below w.heap.size w W → Calls Tryd.prog 11 #[.agg #[.string t, .string s]] W fun e w' => e = .returned (.int .i64 (uidE t s)) ∧ Below W.heap.size W w' := fun W hW => uid_w t s W ht hs (htab.below hW)
    obtain ⟨BV, HBV⟩ := named (bareV k b n s t ns.length l.length)
    obtain ⟨TV, HTV⟩ := named (topV k b n s t ns.length l.length)
    have hTV : TV = (BV.1 && (b == BV.2.1) && (n == BV.2.2.1) && (s.toList == BV.2.2.2.1.toList) && (t.toList == BV.2.2.2.2.toList) && (decide (k = 4 ∨ k = 5) || decide (l.length + ns.length = 0)) && decide (l.length ≤ 16)) := by
      rw [HTV.out, HBV.out]
      rfl
    have HT2 := hide hTV
    clear hTV
    obtain ⟨R, HR⟩ := named (sizeT (.mk k b n s t ns l))
    rw [← HR.out]
    have hR : R = finS (loopV k (ns.drop 0) (pnAt ns 0) (pvAt l 0) (0, 0, TV) (l.drop 0)) := by
      rw [HR.out, sizeT, HTV.out]
      rfl
    have HR2 := hide hR
    clear hR HR HTV
    go_enter Tryd.func47, Tryd.ntmps47
    go_upto_region 1 with (go_quiet (fail))
    rw [← HW1.out] at k1 b1 hs1 ⊢
    clear HW1
    have x0 : W1.cell? ⟨w.heap.size, 0, none⟩ = some (.int .u8 (k : Int)) := k1.cell 0
    go_upto_region 2 with (go_quiet (fail))
    have k2 := Blk.new W1 (vRow k false 0 ⟨#[]⟩ ⟨#[]⟩ (.slice none 0 0) (.slice none 0 0)) 37
    have b2 := bt b1 (below_alloc W1 (.cells (vRow k false 0 ⟨#[]⟩ ⟨#[]⟩ (.slice none 0 0) (.slice none 0 0)).toArray 37))
    replace k1 := k1.alloc (.cells (vRow k false 0 ⟨#[]⟩ ⟨#[]⟩ (.slice none 0 0) (.slice none 0 0)).toArray 37)
    rw [hs1] at k2
    obtain ⟨W2, HW2⟩ := named (W1.alloc (.cells (vRow k false 0 ⟨#[]⟩ ⟨#[]⟩ (.slice none 0 0) (.slice none 0 0)).toArray 37))
    have HW3 : W2 = W1.alloc (.cells #[.int .u8 (k : Int), .bool false, .int .i64 0, .string ⟨#[]⟩, .string ⟨#[]⟩, .slice none 0 0, .slice none 0 0] 37) := HW2.out
    rw [← HW3]
    rw [← HW2.out] at k1 k2 b2
    clear HW3 HW2 x0 b1 hs1
    have x0 : W2.cell? ⟨w.heap.size, 0, none⟩ = some (.int .u8 (k : Int)) := k1.cell 0
    go_upto_block 0 with fail
    go_cut [4] (fun o wx => ∃ (ok bB : Bool) (bN : Int) (bS bT : ByteArray), o = .bool ok ∧ Blk wx w.heap.size (vRow k b n s t (.slice A ns.length ca) (.slice B l.length cb)) 37 ∧ Blk wx (w.heap.size + 1) (vRow k bB bN bS bT (.slice none 0 0) (.slice none 0 0)) 37 ∧ Below w.heap.size w wx ∧ Hid (BV = (ok, bB, bN, bS, bT)))
    case first =>
     as_aux_lemma =>
      clear HT2 HR2 hTa hLa hVa ih
      have HB0 := HBV.out
      unfold bareV at HB0
      rcases (show k = 0 ∨ k = 1 ∨ k = 2 ∨ k = 3 ∨ k = 4 ∨ k = 5 ∨ 6 ≤ k by omega) with hk | hk | hk | hk | hk | hk | hk
      · subst hk
        rw [if_pos rfl] at HB0
        have HB : Hid (BV = _) := HB0
        clear HB0 HBV
        have x1 : W2.cell? ⟨w.heap.size, 1, none⟩ = some (.bool b) := k1.cell 1
        have y1 : W2.cell? ⟨w.heap.size + 1, 1, none⟩ = some (.bool false) := k2.cell 1
        have f1 := k2.free 1
        go_wp2
        go_meet
        case rel => exact ⟨true, b, 0, ⟨#[]⟩, ⟨#[]⟩, rfl, k1.far (p := ⟨w.heap.size + 1, 1, none⟩) (by show w.heap.size ≠ w.heap.size + 1; omega) _, k2.set 1 (.bool b), b2.setCell (p := ⟨w.heap.size + 1, 1, none⟩) (by show w.heap.size ≤ w.heap.size + 1; omega) _, HB⟩
      · subst hk
        rw [if_neg (by decide), if_pos rfl] at HB0
        have HB : Hid (BV = _) := HB0
        clear HB0 HBV
        have x2 : W2.cell? ⟨w.heap.size, 2, none⟩ = some (.int .i64 n) := k1.cell 2
        have y2 : W2.cell? ⟨w.heap.size + 1, 2, none⟩ = some (.int .i64 0) := k2.cell 2
        have f2 := k2.free 2
        go_wp2
        go_meet
        case rel => exact ⟨true, false, n, ⟨#[]⟩, ⟨#[]⟩, rfl, k1.far (p := ⟨w.heap.size + 1, 2, none⟩) (by show w.heap.size ≠ w.heap.size + 1; omega) _, k2.set 2 (.int .i64 n), b2.setCell (p := ⟨w.heap.size + 1, 2, none⟩) (by show w.heap.size ≤ w.heap.size + 1; omega) _, HB⟩
      · subst hk
        rw [if_neg (by decide), if_neg (by decide), if_pos rfl] at HB0
        clear HBV huid
        obtain ⟨V, hV⟩ := named (Lib.validD s.data.toList)
        rw [← hV.out] at hval HB0
        clear hV
        by_cases hle : s.size ≤ 256
        · have hi1 : (s.size : Int) ≤ 256 := by omega
          rw [decide_eq_true hle, Bool.true_and] at HB0
          have HB : Hid (BV = _) := HB0
          clear HB0
          go_upto_region 8 with (go_quiet (fail))
          clear x0
          refine region_flatS _ (fun L u => Blk u w.heap.size (vRow 2 b n s t (.slice A ns.length ca) (.slice B l.length cb)) 37 ∧ Blk u (w.heap.size + 1) (vRow 2 false 0 (cond (L 12) s ⟨#[]⟩) ⟨#[]⟩ (.slice none 0 0) (.slice none 0 0)) 37 ∧ Below w.heap.size w u) (fun _ _ _ => True)
            (fun _ => rel [fun v _ => v = .pointer (some ⟨w.heap.size, 3, none⟩),
              fun v _ => v = .string s,
              fun v _ => v = .pointer (some ⟨w.heap.size, 3, none⟩),
              fun v _ => v = .string s,
              fun v _ => v = .int .i64 (s.size : Int),
              fun v _ => v = .bool true,
              fun v _ => v = .bool true,
              fun v _ => v = .pointer (some ⟨w.heap.size, 3, none⟩),
              fun v _ => v = .string s,
              fun v _ => v = .bool V,
              fun v _ => v = .bool V,
              fun v _ => v = .pointer (some ⟨(w.heap.size + 1), 3, none⟩),
              fun _ _ => True,
              fun v _ => v = .bool V])
            (by kernel_rfl) (by kernel_rfl) (fun v => by simp only [putsV, Act.put, List.toList_toArray, List.setIfInBounds_toArray, List.set_cons_zero, List.set_cons_succ, Nat.reduceAdd, Nat.zero_add]; rfl) ?_ (fun _ _ _ _ _ h => h) ⟨k1, k2, b2.drew⟩ ?_ (fun _ _ _ _ _ _ h => h) (fun L L' u hL h => by rw [← hL 12 (by decide)]; exact h) ?_
          · intro i L j x u u' _ _ hG h
            match j with
            | 0 => exact h
            | 1 => exact h
            | 2 => exact h
            | 3 => exact h
            | 4 => exact h
            | 5 => exact h
            | 6 => exact h
            | 7 => exact h
            | 8 => exact h
            | 9 => exact h
            | 10 => exact h
            | 11 => exact h
            | 12 => exact h
            | 13 => exact h
            | _ + 14 => trivial
          · refine ⟨?_, ?_, ?_, ?_, ?_, ?_, ?_, ?_, ?_, ?_, ?_, ?_, ?_, ?_, trivial⟩
            · intro L hL hcl v u hS hd K' hK
              simp only [waited, List.toList_toArray, Region.binds, rel, List.getD_cons_zero, List.getD_cons_succ, true_imp_iff, and_true] at hd
              simp only [rel, List.getD_cons_zero, List.getD_cons_succ, Act.put, List.setIfInBounds_toArray, List.set_cons_zero, List.set_cons_succ] at hK
              try simp only [hd] at hK
              go_simp
              exact hK.out _ _ ⟨hS, trivial, rfl⟩
            · intro L hL hcl v u hS hd K' hK
              simp only [waited, List.toList_toArray, Region.binds, rel, List.getD_cons_zero, List.getD_cons_succ, true_imp_iff, and_true] at hd
              simp only [rel, List.getD_cons_zero, List.getD_cons_succ, Act.put, List.setIfInBounds_toArray, List.set_cons_zero, List.set_cons_succ] at hK
              try simp only [hd] at hK
              have x0 : u.cell? ⟨w.heap.size, 3, none⟩ = some (.string s) := hS.1.cell 3
              go_simp
              exact hK.out _ _ ⟨hS, trivial, rfl⟩
            · intro L hL hcl v u hS hd K' hK
              simp only [waited, List.toList_toArray, Region.binds, rel, List.getD_cons_zero, List.getD_cons_succ, true_imp_iff, and_true] at hd
              simp only [rel, List.getD_cons_zero, List.getD_cons_succ, Act.put, List.setIfInBounds_toArray, List.set_cons_zero, List.set_cons_succ] at hK
              try simp only [hd] at hK
              go_simp
              exact hK.out _ _ ⟨hS, trivial, rfl⟩
            · intro L hL hcl v u hS hd K' hK
              simp only [waited, List.toList_toArray, Region.binds, rel, List.getD_cons_zero, List.getD_cons_succ, true_imp_iff, and_true] at hd
              simp only [rel, List.getD_cons_zero, List.getD_cons_succ, Act.put, List.setIfInBounds_toArray, List.set_cons_zero, List.set_cons_succ] at hK
              try simp only [hd] at hK
              have x0 : u.cell? ⟨w.heap.size, 3, none⟩ = some (.string s) := hS.1.cell 3
              go_simp
              exact hK.out _ _ ⟨hS, trivial, rfl⟩
            · intro L hL hcl v u hS hd K' hK
              simp only [waited, List.toList_toArray, Region.binds, rel, List.getD_cons_zero, List.getD_cons_succ, true_imp_iff, and_true] at hd
              simp only [rel, List.getD_cons_zero, List.getD_cons_succ, Act.put, List.setIfInBounds_toArray, List.set_cons_zero, List.set_cons_succ] at hK
              try simp only [hd] at hK
              go_simp
              exact hK.out _ _ ⟨hS, trivial, rfl⟩
            · intro L hL hcl v u hS hd K' hK
              simp only [waited, List.toList_toArray, Region.binds, rel, List.getD_cons_zero, List.getD_cons_succ, true_imp_iff, and_true] at hd
              simp only [rel, List.getD_cons_zero, List.getD_cons_succ, Act.put, List.setIfInBounds_toArray, List.set_cons_zero, List.set_cons_succ] at hK
              try simp only [hd] at hK
              go_simp
              exact hK.out _ _ ⟨hS, trivial, rfl⟩
            · intro L hL hcl v u hS hd K' hK
              simp only [waited, List.toList_toArray, Region.binds, rel, List.getD_cons_zero, List.getD_cons_succ, true_imp_iff, and_true] at hd
              simp only [rel, List.getD_cons_zero, List.getD_cons_succ, Act.put, List.setIfInBounds_toArray, List.set_cons_zero, List.set_cons_succ] at hK
              try simp only [hd] at hK
              go_simp
              exact hK.out _ _ ⟨hS, trivial, rfl⟩
            · intro L hL hcl v u hS hd K' hK
              simp only [waited, List.toList_toArray, Region.binds, rel, List.getD_cons_zero, List.getD_cons_succ, true_imp_iff, and_true] at hd
              simp only [rel, List.getD_cons_zero, List.getD_cons_succ, Act.put, List.setIfInBounds_toArray, List.set_cons_zero, List.set_cons_succ] at hK
              try simp only [hd] at hK
              go_simp
              exact hK.out _ _ ⟨hS, trivial, rfl⟩
            · intro L hL hcl v u hS hd K' hK
              simp only [waited, List.toList_toArray, Region.binds, rel, List.getD_cons_zero, List.getD_cons_succ, true_imp_iff, and_true] at hd
              simp only [rel, List.getD_cons_zero, List.getD_cons_succ, Act.put, List.setIfInBounds_toArray, List.set_cons_zero, List.set_cons_succ] at hK
              try simp only [hd] at hK
              have x0 : u.cell? ⟨w.heap.size, 3, none⟩ = some (.string s) := hS.1.cell 3
              go_simp
              exact hK.out _ _ ⟨hS, trivial, rfl⟩
            · intro L hL hcl v u hS hd K' hK
              simp only [waited, List.toList_toArray, Region.binds, rel, List.getD_cons_zero, List.getD_cons_succ, true_imp_iff, and_true] at hd
              simp only [rel, List.getD_cons_zero, List.getD_cons_succ, Act.put, List.setIfInBounds_toArray, List.set_cons_zero, List.set_cons_succ] at hK
              try simp only [hd] at hK
              go_simp
              refine (hval _ hS.2.2).mono ?_
              rintro e w9 ⟨rfl, hb9⟩
              exact hK.out _ _ ⟨⟨hS.1.below hb9, hS.2.1.below hb9, bt hS.2.2 hb9⟩, trivial, rfl⟩
            · intro L hL hcl v u hS hd K' hK
              simp only [waited, List.toList_toArray, Region.binds, rel, List.getD_cons_zero, List.getD_cons_succ, true_imp_iff, and_true] at hd
              simp only [rel, List.getD_cons_zero, List.getD_cons_succ, Act.put, List.setIfInBounds_toArray, List.set_cons_zero, List.set_cons_succ] at hK
              try simp only [hd] at hK
              go_simp
              exact hK.out _ _ ⟨hS, trivial, rfl⟩
            · intro L hL hcl v u hS hd K' hK
              simp only [waited, List.toList_toArray, Region.binds, rel, List.getD_cons_zero, List.getD_cons_succ, true_imp_iff, and_true] at hd
              simp only [rel, List.getD_cons_zero, List.getD_cons_succ, Act.put, List.setIfInBounds_toArray, List.set_cons_zero, List.set_cons_succ] at hK
              try simp only [hd] at hK
              go_simp
              exact hK.out _ _ ⟨hS, trivial, rfl⟩
            · intro L hL hcl v u hS hd K' hK
              simp only [waited, List.toList_toArray, Region.binds, rel, List.getD_cons_zero, List.getD_cons_succ, true_imp_iff, and_true] at hd
              simp only [rel, List.getD_cons_zero, List.getD_cons_succ, Act.put, List.setIfInBounds_toArray, List.set_cons_zero, List.set_cons_succ] at hK
              try simp only [hd] at hK
              have z0 := hS.2.1.free 3
              have x0 : ∃ y, u.cell? ⟨(w.heap.size + 1), 3, none⟩ = some y := ⟨_, hS.2.1.cell 3⟩
              obtain ⟨y, x0⟩ := x0
              go_simp
              exact hK.out undef _ ⟨⟨hS.1.far (p := ⟨(w.heap.size + 1), 3, none⟩) (by show w.heap.size ≠ w.heap.size + 1; omega) _, hS.2.1.set 3 (.string s), hS.2.2.setCell (p := ⟨(w.heap.size + 1), 3, none⟩) (by show w.heap.size ≤ w.heap.size + 1; omega) _⟩, trivial, trivial⟩
            · intro L hL hcl v u hS hd K' hK
              simp only [waited, List.toList_toArray, Region.binds, rel, List.getD_cons_zero, List.getD_cons_succ, true_imp_iff, and_true] at hd
              simp only [rel, List.getD_cons_zero, List.getD_cons_succ, Act.put, List.setIfInBounds_toArray, List.set_cons_zero, List.set_cons_succ] at hK
              try simp only [hd] at hK
              go_simp
              exact hK.out _ _ ⟨hS, trivial, rfl⟩
          · rintro v u hS hR
            simp only [holdAll, List.size_toArray, List.length_cons, List.length_nil, Nat.reduceAdd, rel, List.getD_cons_zero, List.getD_cons_succ] at hR
            obtain ⟨-, h28⟩ := hR
            simp only [h28]
            clear h28
            obtain ⟨j1, j2, j3⟩ := hS
            go_wp2
            go_meet
            case rel => exact ⟨_, false, 0, s, ⟨#[]⟩, rfl, j1, j2, j3, by first | exact HB | (rw [HV]; exact HB)⟩
        · have hi1 : ¬ (s.size : Int) ≤ 256 := by omega
          rw [decide_eq_false hle, Bool.false_and] at HB0
          have HB : Hid (BV = _) := HB0
          clear HB0 hval
          go_upto_region 8 with (go_quiet (fail))
          clear x0
          refine region_flatS _ (fun L u => Blk u w.heap.size (vRow 2 b n s t (.slice A ns.length ca) (.slice B l.length cb)) 37 ∧ Blk u (w.heap.size + 1) (vRow 2 false 0 (cond (L 12) s ⟨#[]⟩) ⟨#[]⟩ (.slice none 0 0) (.slice none 0 0)) 37 ∧ Below w.heap.size w u) (fun _ _ _ => True)
            (fun _ => rel [fun v _ => v = .pointer (some ⟨w.heap.size, 3, none⟩),
              fun v _ => v = .string s,
              fun v _ => v = .pointer (some ⟨w.heap.size, 3, none⟩),
              fun v _ => v = .string s,
              fun v _ => v = .int .i64 (s.size : Int),
              fun v _ => v = .bool false,
              fun v _ => v = .bool false,
              fun v _ => v = undef,
              fun v _ => v = undef,
              fun v _ => v = undef,
              fun v _ => v = .bool false,
              fun v _ => v = .pointer (some ⟨(w.heap.size + 1), 3, none⟩),
              fun _ _ => True,
              fun v _ => v = .bool false])
            (by kernel_rfl) (by kernel_rfl) (fun v => by simp only [putsV, Act.put, List.toList_toArray, List.setIfInBounds_toArray, List.set_cons_zero, List.set_cons_succ, Nat.reduceAdd, Nat.zero_add]; rfl) ?_ (fun _ _ _ _ _ h => h) ⟨k1, k2, b2.drew⟩ ?_ (fun _ _ _ _ _ _ h => h) (fun L L' u hL h => by rw [← hL 12 (by decide)]; exact h) ?_
          · intro i L j x u u' _ _ hG h
            match j with
            | 0 => exact h
            | 1 => exact h
            | 2 => exact h
            | 3 => exact h
            | 4 => exact h
            | 5 => exact h
            | 6 => exact h
            | 7 => exact h
            | 8 => exact h
            | 9 => exact h
            | 10 => exact h
            | 11 => exact h
            | 12 => exact h
            | 13 => exact h
            | _ + 14 => trivial
          · refine ⟨?_, ?_, ?_, ?_, ?_, ?_, ?_, ?_, ?_, ?_, ?_, ?_, ?_, ?_, trivial⟩
            · intro L hL hcl v u hS hd K' hK
              simp only [waited, List.toList_toArray, Region.binds, rel, List.getD_cons_zero, List.getD_cons_succ, true_imp_iff, and_true] at hd
              simp only [rel, List.getD_cons_zero, List.getD_cons_succ, Act.put, List.setIfInBounds_toArray, List.set_cons_zero, List.set_cons_succ] at hK
              try simp only [hd] at hK
              go_simp
              exact hK.out _ _ ⟨hS, trivial, rfl⟩
            · intro L hL hcl v u hS hd K' hK
              simp only [waited, List.toList_toArray, Region.binds, rel, List.getD_cons_zero, List.getD_cons_succ, true_imp_iff, and_true] at hd
              simp only [rel, List.getD_cons_zero, List.getD_cons_succ, Act.put, List.setIfInBounds_toArray, List.set_cons_zero, List.set_cons_succ] at hK
              try simp only [hd] at hK
              have x0 : u.cell? ⟨w.heap.size, 3, none⟩ = some (.string s) := hS.1.cell 3
              go_simp
              exact hK.out _ _ ⟨hS, trivial, rfl⟩
            · intro L hL hcl v u hS hd K' hK
              simp only [waited, List.toList_toArray, Region.binds, rel, List.getD_cons_zero, List.getD_cons_succ, true_imp_iff, and_true] at hd
              simp only [rel, List.getD_cons_zero, List.getD_cons_succ, Act.put, List.setIfInBounds_toArray, List.set_cons_zero, List.set_cons_succ] at hK
              try simp only [hd] at hK
              go_simp
              exact hK.out _ _ ⟨hS, trivial, rfl⟩
            · intro L hL hcl v u hS hd K' hK
              simp only [waited, List.toList_toArray, Region.binds, rel, List.getD_cons_zero, List.getD_cons_succ, true_imp_iff, and_true] at hd
              simp only [rel, List.getD_cons_zero, List.getD_cons_succ, Act.put, List.setIfInBounds_toArray, List.set_cons_zero, List.set_cons_succ] at hK
              try simp only [hd] at hK
              have x0 : u.cell? ⟨w.heap.size, 3, none⟩ = some (.string s) := hS.1.cell 3
              go_simp
              exact hK.out _ _ ⟨hS, trivial, rfl⟩
            · intro L hL hcl v u hS hd K' hK
              simp only [waited, List.toList_toArray, Region.binds, rel, List.getD_cons_zero, List.getD_cons_succ, true_imp_iff, and_true] at hd
              simp only [rel, List.getD_cons_zero, List.getD_cons_succ, Act.put, List.setIfInBounds_toArray, List.set_cons_zero, List.set_cons_succ] at hK
              try simp only [hd] at hK
              go_simp
              exact hK.out _ _ ⟨hS, trivial, rfl⟩
            · intro L hL hcl v u hS hd K' hK
              simp only [waited, List.toList_toArray, Region.binds, rel, List.getD_cons_zero, List.getD_cons_succ, true_imp_iff, and_true] at hd
              simp only [rel, List.getD_cons_zero, List.getD_cons_succ, Act.put, List.setIfInBounds_toArray, List.set_cons_zero, List.set_cons_succ] at hK
              try simp only [hd] at hK
              go_simp
              exact hK.out _ _ ⟨hS, trivial, rfl⟩
            · intro L hL hcl v u hS hd K' hK
              simp only [waited, List.toList_toArray, Region.binds, rel, List.getD_cons_zero, List.getD_cons_succ, true_imp_iff, and_true] at hd
              simp only [rel, List.getD_cons_zero, List.getD_cons_succ, Act.put, List.setIfInBounds_toArray, List.set_cons_zero, List.set_cons_succ] at hK
              try simp only [hd] at hK
              go_simp
              exact hK.out _ _ ⟨hS, trivial, rfl⟩
            · intro L hL hcl v u hS hd K' hK
              simp only [waited, List.toList_toArray, Region.binds, rel, List.getD_cons_zero, List.getD_cons_succ, true_imp_iff, and_true] at hd
              simp only [rel, List.getD_cons_zero, List.getD_cons_succ, Act.put, List.setIfInBounds_toArray, List.set_cons_zero, List.set_cons_succ] at hK
              try simp only [hd] at hK
              go_simp
              exact hK.out _ _ ⟨hS, trivial, rfl⟩
            · intro L hL hcl v u hS hd K' hK
              simp only [waited, List.toList_toArray, Region.binds, rel, List.getD_cons_zero, List.getD_cons_succ, true_imp_iff, and_true] at hd
              simp only [rel, List.getD_cons_zero, List.getD_cons_succ, Act.put, List.setIfInBounds_toArray, List.set_cons_zero, List.set_cons_succ] at hK
              try simp only [hd] at hK
              go_simp
              exact hK.out _ _ ⟨hS, trivial, rfl⟩
            · intro L hL hcl v u hS hd K' hK
              simp only [waited, List.toList_toArray, Region.binds, rel, List.getD_cons_zero, List.getD_cons_succ, true_imp_iff, and_true] at hd
              simp only [rel, List.getD_cons_zero, List.getD_cons_succ, Act.put, List.setIfInBounds_toArray, List.set_cons_zero, List.set_cons_succ] at hK
              try simp only [hd] at hK
              go_simp
              exact hK.out _ _ ⟨hS, trivial, rfl⟩
            · intro L hL hcl v u hS hd K' hK
              simp only [waited, List.toList_toArray, Region.binds, rel, List.getD_cons_zero, List.getD_cons_succ, true_imp_iff, and_true] at hd
              simp only [rel, List.getD_cons_zero, List.getD_cons_succ, Act.put, List.setIfInBounds_toArray, List.set_cons_zero, List.set_cons_succ] at hK
              try simp only [hd] at hK
              go_simp
              exact hK.out _ _ ⟨hS, trivial, rfl⟩
            · intro L hL hcl v u hS hd K' hK
              simp only [waited, List.toList_toArray, Region.binds, rel, List.getD_cons_zero, List.getD_cons_succ, true_imp_iff, and_true] at hd
              simp only [rel, List.getD_cons_zero, List.getD_cons_succ, Act.put, List.setIfInBounds_toArray, List.set_cons_zero, List.set_cons_succ] at hK
              try simp only [hd] at hK
              go_simp
              exact hK.out _ _ ⟨hS, trivial, rfl⟩
            · intro L hL hcl v u hS hd K' hK
              simp only [waited, List.toList_toArray, Region.binds, rel, List.getD_cons_zero, List.getD_cons_succ, true_imp_iff, and_true] at hd
              simp only [rel, List.getD_cons_zero, List.getD_cons_succ, Act.put, List.setIfInBounds_toArray, List.set_cons_zero, List.set_cons_succ] at hK
              try simp only [hd] at hK
              have z0 := hS.2.1.free 3
              have x0 : ∃ y, u.cell? ⟨(w.heap.size + 1), 3, none⟩ = some y := ⟨_, hS.2.1.cell 3⟩
              obtain ⟨y, x0⟩ := x0
              go_simp
              exact hK.out undef _ ⟨⟨hS.1.far (p := ⟨(w.heap.size + 1), 3, none⟩) (by show w.heap.size ≠ w.heap.size + 1; omega) _, hS.2.1.set 3 (.string s), hS.2.2.setCell (p := ⟨(w.heap.size + 1), 3, none⟩) (by show w.heap.size ≤ w.heap.size + 1; omega) _⟩, trivial, trivial⟩
            · intro L hL hcl v u hS hd K' hK
              simp only [waited, List.toList_toArray, Region.binds, rel, List.getD_cons_zero, List.getD_cons_succ, true_imp_iff, and_true] at hd
              simp only [rel, List.getD_cons_zero, List.getD_cons_succ, Act.put, List.setIfInBounds_toArray, List.set_cons_zero, List.set_cons_succ] at hK
              try simp only [hd] at hK
              go_simp
              exact hK.out _ _ ⟨hS, trivial, rfl⟩
          · rintro v u hS hR
            simp only [holdAll, List.size_toArray, List.length_cons, List.length_nil, Nat.reduceAdd, rel, List.getD_cons_zero, List.getD_cons_succ] at hR
            obtain ⟨-, h28⟩ := hR
            simp only [h28]
            clear h28
            obtain ⟨j1, j2, j3⟩ := hS
            go_wp2
            go_meet
            case rel => exact ⟨_, false, 0, s, ⟨#[]⟩, rfl, j1, j2, j3, by first | exact HB | (rw [HV]; exact HB)⟩
      · subst hk
        rw [if_neg (by decide), if_neg (by decide), if_neg (by decide), if_pos rfl] at HB0
        clear HBV hval
        obtain ⟨U, hU⟩ := named (uidE t s)
        rw [← hU.out] at huid HB0
        clear hU
        have HB : Hid (BV = _) := HB0
        clear HB0
        go_upto_region 10 with (go_quiet (fail))
        clear x0
        refine region_flatS _ (fun L u => Blk u w.heap.size (vRow 3 b n s t (.slice A ns.length ca) (.slice B l.length cb)) 37 ∧ Blk u (w.heap.size + 1) (vRow 3 false 0 (cond (L 12) s ⟨#[]⟩) (cond (L 14) t ⟨#[]⟩) (.slice none 0 0) (.slice none 0 0)) 37 ∧ Below w.heap.size w u) (fun _ _ _ => True)
          (fun _ => rel [fun v _ => v = .pointer (some ⟨w.heap.size, 3, none⟩),
            fun v _ => v = .string s,
            fun v _ => v = .pointer (some ⟨w.heap.size, 4, none⟩),
            fun v _ => v = .string t,
            fun v _ => v = .pointer (some ⟨w.heap.size, 4, none⟩),
            fun v _ => v = .string t,
            fun v _ => v = .pointer (some ⟨w.heap.size, 3, none⟩),
            fun v _ => v = .string s,
            fun v _ => v = .agg #[.string t, .string s],
            fun v _ => v = .int .i64 U,
            fun v _ => v = .bool (U == 0),
            fun v _ => v = .pointer (some ⟨(w.heap.size + 1), 3, none⟩),
            fun _ _ => True,
            fun v _ => v = .pointer (some ⟨(w.heap.size + 1), 4, none⟩),
            fun _ _ => True,
            fun v _ => v = .bool (U == 0)])
          (by kernel_rfl) (by kernel_rfl) (fun v => by simp only [putsV, Act.put, List.toList_toArray, List.setIfInBounds_toArray, List.set_cons_zero, List.set_cons_succ, Nat.reduceAdd, Nat.zero_add]; rfl) ?_ (fun _ _ _ _ _ h => h) ⟨k1, k2, b2.drew⟩ ?_ (fun _ _ _ _ _ _ h => h) (fun L L' u hL h => by rw [← hL 12 (by decide)]; rw [← hL 14 (by decide)]; exact h) ?_
        · intro i L j x u u' _ _ hG h
          match j with
          | 0 => exact h
          | 1 => exact h
          | 2 => exact h
          | 3 => exact h
          | 4 => exact h
          | 5 => exact h
          | 6 => exact h
          | 7 => exact h
          | 8 => exact h
          | 9 => exact h
          | 10 => exact h
          | 11 => exact h
          | 12 => exact h
          | 13 => exact h
          | 14 => exact h
          | 15 => exact h
          | _ + 16 => trivial
        · refine ⟨?_, ?_, ?_, ?_, ?_, ?_, ?_, ?_, ?_, ?_, ?_, ?_, ?_, ?_, ?_, ?_, trivial⟩
          · intro L hL hcl v u hS hd K' hK
            simp only [waited, List.toList_toArray, Region.binds, rel, List.getD_cons_zero, List.getD_cons_succ, true_imp_iff, and_true] at hd
            simp only [rel, List.getD_cons_zero, List.getD_cons_succ, Act.put, List.setIfInBounds_toArray, List.set_cons_zero, List.set_cons_succ] at hK
            try simp only [hd] at hK
            go_simp
            exact hK.out _ _ ⟨hS, trivial, rfl⟩
          · intro L hL hcl v u hS hd K' hK
            simp only [waited, List.toList_toArray, Region.binds, rel, List.getD_cons_zero, List.getD_cons_succ, true_imp_iff, and_true] at hd
            simp only [rel, List.getD_cons_zero, List.getD_cons_succ, Act.put, List.setIfInBounds_toArray, List.set_cons_zero, List.set_cons_succ] at hK
            try simp only [hd] at hK
            have x0 : u.cell? ⟨w.heap.size, 3, none⟩ = some (.string s) := hS.1.cell 3
            go_simp
            exact hK.out _ _ ⟨hS, trivial, rfl⟩
          · intro L hL hcl v u hS hd K' hK
            simp only [waited, List.toList_toArray, Region.binds, rel, List.getD_cons_zero, List.getD_cons_succ, true_imp_iff, and_true] at hd
            simp only [rel, List.getD_cons_zero, List.getD_cons_succ, Act.put, List.setIfInBounds_toArray, List.set_cons_zero, List.set_cons_succ] at hK
            try simp only [hd] at hK
            go_simp
            exact hK.out _ _ ⟨hS, trivial, rfl⟩
          · intro L hL hcl v u hS hd K' hK
            simp only [waited, List.toList_toArray, Region.binds, rel, List.getD_cons_zero, List.getD_cons_succ, true_imp_iff, and_true] at hd
            simp only [rel, List.getD_cons_zero, List.getD_cons_succ, Act.put, List.setIfInBounds_toArray, List.set_cons_zero, List.set_cons_succ] at hK
            try simp only [hd] at hK
            have x0 : u.cell? ⟨w.heap.size, 4, none⟩ = some (.string t) := hS.1.cell 4
            go_simp
            exact hK.out _ _ ⟨hS, trivial, rfl⟩
          · intro L hL hcl v u hS hd K' hK
            simp only [waited, List.toList_toArray, Region.binds, rel, List.getD_cons_zero, List.getD_cons_succ, true_imp_iff, and_true] at hd
            simp only [rel, List.getD_cons_zero, List.getD_cons_succ, Act.put, List.setIfInBounds_toArray, List.set_cons_zero, List.set_cons_succ] at hK
            try simp only [hd] at hK
            go_simp
            exact hK.out _ _ ⟨hS, trivial, rfl⟩
          · intro L hL hcl v u hS hd K' hK
            simp only [waited, List.toList_toArray, Region.binds, rel, List.getD_cons_zero, List.getD_cons_succ, true_imp_iff, and_true] at hd
            simp only [rel, List.getD_cons_zero, List.getD_cons_succ, Act.put, List.setIfInBounds_toArray, List.set_cons_zero, List.set_cons_succ] at hK
            try simp only [hd] at hK
            have x0 : u.cell? ⟨w.heap.size, 4, none⟩ = some (.string t) := hS.1.cell 4
            go_simp
            exact hK.out _ _ ⟨hS, trivial, rfl⟩
          · intro L hL hcl v u hS hd K' hK
            simp only [waited, List.toList_toArray, Region.binds, rel, List.getD_cons_zero, List.getD_cons_succ, true_imp_iff, and_true] at hd
            simp only [rel, List.getD_cons_zero, List.getD_cons_succ, Act.put, List.setIfInBounds_toArray, List.set_cons_zero, List.set_cons_succ] at hK
            try simp only [hd] at hK
            go_simp
            exact hK.out _ _ ⟨hS, trivial, rfl⟩
          · intro L hL hcl v u hS hd K' hK
            simp only [waited, List.toList_toArray, Region.binds, rel, List.getD_cons_zero, List.getD_cons_succ, true_imp_iff, and_true] at hd
            simp only [rel, List.getD_cons_zero, List.getD_cons_succ, Act.put, List.setIfInBounds_toArray, List.set_cons_zero, List.set_cons_succ] at hK
            try simp only [hd] at hK
            have x0 : u.cell? ⟨w.heap.size, 3, none⟩ = some (.string s) := hS.1.cell 3
            go_simp
            exact hK.out _ _ ⟨hS, trivial, rfl⟩
          · intro L hL hcl v u hS hd K' hK
            simp only [waited, List.toList_toArray, Region.binds, rel, List.getD_cons_zero, List.getD_cons_succ, true_imp_iff, and_true] at hd
            simp only [rel, List.getD_cons_zero, List.getD_cons_succ, Act.put, List.setIfInBounds_toArray, List.set_cons_zero, List.set_cons_succ] at hK
            try simp only [hd] at hK
            go_simp
            exact hK.out _ _ ⟨hS, trivial, rfl⟩
          · intro L hL hcl v u hS hd K' hK
            simp only [waited, List.toList_toArray, Region.binds, rel, List.getD_cons_zero, List.getD_cons_succ, true_imp_iff, and_true] at hd
            simp only [rel, List.getD_cons_zero, List.getD_cons_succ, Act.put, List.setIfInBounds_toArray, List.set_cons_zero, List.set_cons_succ] at hK
            try simp only [hd] at hK
            go_simp
            refine (huid _ hS.2.2).mono ?_
            rintro e w9 ⟨rfl, hb9⟩
            exact hK.out _ _ ⟨⟨hS.1.below hb9, hS.2.1.below hb9, bt hS.2.2 hb9⟩, trivial, rfl⟩
          · intro L hL hcl v u hS hd K' hK
            simp only [waited, List.toList_toArray, Region.binds, rel, List.getD_cons_zero, List.getD_cons_succ, true_imp_iff, and_true] at hd
            simp only [rel, List.getD_cons_zero, List.getD_cons_succ, Act.put, List.setIfInBounds_toArray, List.set_cons_zero, List.set_cons_succ] at hK
            try simp only [hd] at hK
            go_simp
            exact hK.out _ _ ⟨hS, trivial, rfl⟩
          · intro L hL hcl v u hS hd K' hK
            simp only [waited, List.toList_toArray, Region.binds, rel, List.getD_cons_zero, List.getD_cons_succ, true_imp_iff, and_true] at hd
            simp only [rel, List.getD_cons_zero, List.getD_cons_succ, Act.put, List.setIfInBounds_toArray, List.set_cons_zero, List.set_cons_succ] at hK
            try simp only [hd] at hK
            go_simp
            exact hK.out _ _ ⟨hS, trivial, rfl⟩
          · intro L hL hcl v u hS hd K' hK
            simp only [waited, List.toList_toArray, Region.binds, rel, List.getD_cons_zero, List.getD_cons_succ, true_imp_iff, and_true] at hd
            simp only [rel, List.getD_cons_zero, List.getD_cons_succ, Act.put, List.setIfInBounds_toArray, List.set_cons_zero, List.set_cons_succ] at hK
            try simp only [hd] at hK
            have z0 := hS.2.1.free 3
            have x0 : ∃ y, u.cell? ⟨(w.heap.size + 1), 3, none⟩ = some y := ⟨_, hS.2.1.cell 3⟩
            obtain ⟨y, x0⟩ := x0
            go_simp
            exact hK.out undef _ ⟨⟨hS.1.far (p := ⟨(w.heap.size + 1), 3, none⟩) (by show w.heap.size ≠ w.heap.size + 1; omega) _, hS.2.1.set 3 (.string s), hS.2.2.setCell (p := ⟨(w.heap.size + 1), 3, none⟩) (by show w.heap.size ≤ w.heap.size + 1; omega) _⟩, trivial, trivial⟩
          · intro L hL hcl v u hS hd K' hK
            simp only [waited, List.toList_toArray, Region.binds, rel, List.getD_cons_zero, List.getD_cons_succ, true_imp_iff, and_true] at hd
            simp only [rel, List.getD_cons_zero, List.getD_cons_succ, Act.put, List.setIfInBounds_toArray, List.set_cons_zero, List.set_cons_succ] at hK
            try simp only [hd] at hK
            go_simp
            exact hK.out _ _ ⟨hS, trivial, rfl⟩
          · intro L hL hcl v u hS hd K' hK
            simp only [waited, List.toList_toArray, Region.binds, rel, List.getD_cons_zero, List.getD_cons_succ, true_imp_iff, and_true] at hd
            simp only [rel, List.getD_cons_zero, List.getD_cons_succ, Act.put, List.setIfInBounds_toArray, List.set_cons_zero, List.set_cons_succ] at hK
            try simp only [hd] at hK
            have z0 := hS.2.1.free 4
            have x0 : ∃ y, u.cell? ⟨(w.heap.size + 1), 4, none⟩ = some y := ⟨_, hS.2.1.cell 4⟩
            obtain ⟨y, x0⟩ := x0
            go_simp
            exact hK.out undef _ ⟨⟨hS.1.far (p := ⟨(w.heap.size + 1), 4, none⟩) (by show w.heap.size ≠ w.heap.size + 1; omega) _, hS.2.1.set 4 (.string t), hS.2.2.setCell (p := ⟨(w.heap.size + 1), 4, none⟩) (by show w.heap.size ≤ w.heap.size + 1; omega) _⟩, trivial, trivial⟩
          · intro L hL hcl v u hS hd K' hK
            simp only [waited, List.toList_toArray, Region.binds, rel, List.getD_cons_zero, List.getD_cons_succ, true_imp_iff, and_true] at hd
            simp only [rel, List.getD_cons_zero, List.getD_cons_succ, Act.put, List.setIfInBounds_toArray, List.set_cons_zero, List.set_cons_succ] at hK
            try simp only [hd] at hK
            go_simp
            exact hK.out _ _ ⟨hS, trivial, rfl⟩
        · rintro v u hS hR
          simp only [holdAll, List.size_toArray, List.length_cons, List.length_nil, Nat.reduceAdd, rel, List.getD_cons_zero, List.getD_cons_succ] at hR
          obtain ⟨-, h28⟩ := hR
          simp only [h28]
          clear h28
          obtain ⟨j1, j2, j3⟩ := hS
          go_wp2
          go_meet
          case rel => exact ⟨_, false, 0, s, t, rfl, j1, j2, j3, HB⟩
      · subst hk
        rw [if_neg (by decide), if_neg (by decide), if_neg (by decide), if_neg (by decide), if_pos rfl] at HB0
        have HB : Hid (BV = _) := HB0
        clear HB0 HBV
        have x5 : W2.cell? ⟨w.heap.size, 5, none⟩ = some (.slice A ns.length ca) := k1.cell 5
        by_cases h0 : ns.length = 0
        · have hz : ((ns.length : Int) == 0) = true := by rw [beq_iff_eq]; omega
          go_wp2
          go_meet
          case rel => exact ⟨_, false, 0, ⟨#[]⟩, ⟨#[]⟩, rfl, k1, k2, b2, by rw [decide_eq_true h0] at HB; exact HB⟩
        · have hz : ((ns.length : Int) == 0) = false := by rw [beq_eq_false_iff_ne]; omega
          go_wp2
          go_meet
          case rel => exact ⟨_, false, 0, ⟨#[]⟩, ⟨#[]⟩, rfl, k1, k2, b2, by rw [decide_eq_false h0] at HB; exact HB⟩
      · subst hk
        rw [if_neg (by decide), if_neg (by decide), if_neg (by decide), if_neg (by decide), if_neg (by decide), if_pos rfl] at HB0
        have HB : Hid (BV = _) := HB0
        clear HB0 HBV
        have x5 : W2.cell? ⟨w.heap.size, 5, none⟩ = some (.slice A ns.length ca) := k1.cell 5
        have x6 : W2.cell? ⟨w.heap.size, 6, none⟩ = some (.slice B l.length cb) := k1.cell 6
        by_cases h0 : ns.length = l.length
        · have hz : ((ns.length : Int) == (l.length : Int)) = true := by rw [beq_iff_eq]; omega
          go_wp2
          go_meet
          case rel => exact ⟨_, false, 0, ⟨#[]⟩, ⟨#[]⟩, rfl, k1, k2, b2, by rw [decide_eq_true h0] at HB; exact HB⟩
        · have hz : ((ns.length : Int) == (l.length : Int)) = false := by rw [beq_eq_false_iff_ne]; omega
          go_wp2
          go_meet
          case rel => exact ⟨_, false, 0, ⟨#[]⟩, ⟨#[]⟩, rfl, k1, k2, b2, by rw [decide_eq_false h0] at HB; exact HB⟩
      · rw [if_neg (by omega), if_neg (by omega), if_neg (by omega), if_neg (by omega), if_neg (by omega), if_neg (by omega)] at HB0
        have HB : Hid (BV = _) := HB0
        clear HB0 HBV
        have f0 : ((k : Int) == 0) = false := by rw [beq_eq_false_iff_ne]; omega
        have f1 : ((k : Int) == 1) = false := by rw [beq_eq_false_iff_ne]; omega
        have f2 : ((k : Int) == 2) = false := by rw [beq_eq_false_iff_ne]; omega
        have f3 : ((k : Int) == 3) = false := by rw [beq_eq_false_iff_ne]; omega
        have f4 : ((k : Int) == 4) = false := by rw [beq_eq_false_iff_ne]; omega
        have f5 : ((k : Int) == 5) = false := by rw [beq_eq_false_iff_ne]; omega
        have n0 : ¬ k = 0 := by omega
        have n1 : ¬ k = 1 := by omega
        have n2 : ¬ k = 2 := by omega
        have n3 : ¬ k = 3 := by omega
        have n4 : ¬ k = 4 := by omega
        have n5 : ¬ k = 5 := by omega
        go_wp2
        go_meet
        case rel => exact ⟨false, false, 0, ⟨#[]⟩, ⟨#[]⟩, rfl, k1, k2, b2, HB⟩
    case rest =>
      rename World => w9
      obtain ⟨ok, bB, bN, bS, bT, rfl, j1, j2, j3, HB⟩ := hcut
      have hTV := HT2.out
      have hBk5 : TV = true → k = 5 → ns.length = l.length := fun h hk => by
        have h1 : BV.1 = true := by
          rw [hTV] at h
          simp only [Bool.and_eq_true] at h
          exact h.1.1.1.1.1.1
        have h2 := HBV.out
        unfold bareV at h2
        subst hk
        rw [if_neg (by decide), if_neg (by decide), if_neg (by decide), if_neg (by decide), if_neg (by decide), if_pos rfl] at h2
        rw [h2] at h1
        exact of_decide_eq_true h1
      rw [HB.out] at hTV
      simp only at hTV
      have HTV := hide hTV
      have HK5 := hide hBk5
      clear hTV hBk5 HT2 HB HBV k1 k2 b2 x0 hval huid
      have x0 : w9.cell? ⟨w.heap.size, 0, none⟩ = some (.int .u8 (k : Int)) := j1.cell 0
      have x1 : w9.cell? ⟨w.heap.size, 1, none⟩ = some (.bool b) := j1.cell 1
      have x2 : w9.cell? ⟨w.heap.size, 2, none⟩ = some (.int .i64 n) := j1.cell 2
      have x3 : w9.cell? ⟨w.heap.size, 3, none⟩ = some (.string s) := j1.cell 3
      have x4 : w9.cell? ⟨w.heap.size, 4, none⟩ = some (.string t) := j1.cell 4
      have x5 : w9.cell? ⟨w.heap.size, 5, none⟩ = some (.slice A ns.length ca) := j1.cell 5
      have x6 : w9.cell? ⟨w.heap.size, 6, none⟩ = some (.slice B l.length cb) := j1.cell 6
      have y1 : w9.cell? ⟨w.heap.size + 1, 1, none⟩ = some (.bool bB) := j2.cell 1
      have y2 : w9.cell? ⟨w.heap.size + 1, 2, none⟩ = some (.int .i64 bN) := j2.cell 2
      have y3 : w9.cell? ⟨w.heap.size + 1, 3, none⟩ = some (.string bS) := j2.cell 3
      have y4 : w9.cell? ⟨w.heap.size + 1, 4, none⟩ = some (.string bT) := j2.cell 4
      clear j2
      obtain ⟨P, hP⟩ := named (decide (k = 4 ∨ k = 5))
      rw [← hP.out] at HTV
      go_upto_region 15 with fail
      go_cut [6] (fun p wx => p = .bool P ∧ wx = w9)
      case first =>
        clear HTV HR2 HK5 ih x1 x2 x3 x4 x5 x6 y1 y2 y3 y4
        rcases (show k = 4 ∨ k = 5 ∨ (k ≠ 4 ∧ k ≠ 5) by omega) with hk | hk | hk
        · subst hk
          go_wp2
          go_meet
          case rel => exact ⟨by rw [hP.out]; rfl, rfl⟩
        · subst hk
          go_wp2
          go_meet
          case rel => exact ⟨by rw [hP.out]; rfl, rfl⟩
        · have f4 : ((k : Int) == 4) = false := by rw [beq_eq_false_iff_ne]; omega
          have f5 : ((k : Int) == 5) = false := by rw [beq_eq_false_iff_ne]; omega
          have n4 : ¬ k = 4 := by omega
          have n5 : ¬ k = 5 := by omega
          go_wp2
          go_meet
          case rel => exact ⟨by rw [hP.out, decide_eq_false (by omega)], rfl⟩
      case rest =>
        obtain ⟨rfl, hw9⟩ := hcut
        subst hw9
        rename World => w9
        clear hP
        go_upto_region 16 with fail
        go_cut [4] (fun o wx => o = .bool TV ∧ wx = w9)
        case first =>
         as_aux_lemma =>
          clear HR2 HK5 ih
          cases ok with
          | false =>
            go_wp2
            go_meet
            case rel => exact ⟨by rw [HTV.out]; rfl, rfl⟩
          | true =>
            cases h1 : (b == bB) with
            | false =>
              go_wp2
              go_meet
              case rel => exact ⟨by rw [HTV.out, h1]; rfl, rfl⟩
            | true =>
              cases h2 : (n == bN) with
              | false =>
                go_wp2
                go_meet
                case rel => exact ⟨by rw [HTV.out, h1, h2]; rfl, rfl⟩
              | true =>
                cases h3 : (s.toList == bS.toList) with
                | false =>
                  go_wp2
                  go_meet
                  case rel => exact ⟨by rw [HTV.out, h1, h2, h3]; rfl, rfl⟩
                | true =>
                  cases h4 : (t.toList == bT.toList) with
                  | false =>
                    go_wp2
                    go_meet
                    case rel => exact ⟨by rw [HTV.out, h1, h2, h3, h4]; rfl, rfl⟩
                  | true =>
                    cases P with
                    | true =>
                      by_cases h6 : l.length ≤ 16
                      · have h6i : (l.length : Int) ≤ 16 := by omega
                        go_wp2
                        go_meet
                        case rel => exact ⟨by rw [HTV.out, h1, h2, h3, h4, decide_eq_true h6]; rfl, rfl⟩
                      · have h6i : ¬ (l.length : Int) ≤ 16 := by omega
                        go_wp2
                        go_meet
                        case rel => exact ⟨by rw [HTV.out, h1, h2, h3, h4, decide_eq_false h6]; rfl, rfl⟩
                    | false =>
                      have hw0 : IntKind.i64.wrap ((l.length : Int) + (ns.length : Int)) = (l.length : Int) + (ns.length : Int) := by rw [IntKind.wrap_i64]; omega
                      have hw1 : wrap64 ((l.length : Int) + (ns.length : Int)) = (l.length : Int) + (ns.length : Int) := by unfold wrap64; omega
                      by_cases h5 : l.length + ns.length = 0
                      · have h5i : ((l.length : Int) + (ns.length : Int) == 0) = true := by rw [beq_iff_eq]; omega
                        have h6 : l.length ≤ 16 := by omega
                        have h6i : (l.length : Int) ≤ 16 := by omega
                        go_wp2
                        go_meet
                        case rel => exact ⟨by rw [HTV.out, h1, h2, h3, h4, decide_eq_true h5, decide_eq_true h6]; rfl, rfl⟩
                      · have h5i : ((l.length : Int) + (ns.length : Int) == 0) = false := by rw [beq_eq_false_iff_ne]; omega
                        go_wp2
                        go_meet
                        case rel => exact ⟨by rw [HTV.out, h1, h2, h3, h4, decide_eq_false h5]; rfl, rfl⟩
        case rest =>
          obtain ⟨rfl, hw9⟩ := hcut
          subst hw9
          clear HTV x0 x1 x2 x3 x4 x5 x6 y1 y2 y3 y4
          go_wp2_with (first | (at_builtin; fail))
          go_loopw [2, 3, 4, 7] (fun d c o i wr => ∃ (d' c' : Int) (o' : Bool) (j : Nat), d = .int .i64 d' ∧ c = .int .i64 c' ∧ o = .bool o' ∧ i = .int .i64 j ∧ j ≤ l.length ∧ (o' = true → TV = true) ∧ Hid (R = finS (loopV k (ns.drop j) (pnAt ns j) (pvAt l j) (d', c', o') (l.drop j))) ∧ Blk wr w.heap.size (vRow k b n s t (.slice A ns.length ca) (.slice B l.length cb)) 37 ∧ Below w.heap.size w wr) (fun _ _ _ i _ => l.length - (intOf i).toNat)
          case atStart => exact ⟨0, 0, TV, 0, rfl, rfl, rfl, rfl, by omega, fun h => h, HR2, j1, j3⟩
          case round =>
            clear j1 j3 HR2
            obtain ⟨d, c, o, j, rfl, rfl, rfl, rfl, hj, hoT, HL, j1, j3⟩ := hrel
            have x6 : wr.cell? ⟨w.heap.size, 6, none⟩ = some (.slice B l.length cb) := j1.cell 6
            cases o with
            | false =>
              have hRf : R = (wrap64 (d + 1), wrap64 (c + 1), false) := by rw [HL.out, loop_stop]; rfl
              have HRf := hide hRf
              clear hRf HL ih hLa hVa hTa HK5 hoT
              go_wp2_with (first | (at_builtin; fail))
              go_ret3
              exact ⟨by rw [HRf.out]; rfl, j3⟩
            | true =>
              have hT := hoT rfl
              clear hoT
              by_cases hlt : j < l.length
              · obtain ⟨x, hx⟩ : ∃ x, l[j]? = some x := ⟨l[j], List.getElem?_eq_getElem hlt⟩
                have hst := HL.out
                rw [loop_step k ns d c hx] at hst
                have hht1 := Vt.ht_mem (List.mem_of_getElem? hx)
                obtain ⟨r, hr, hv⟩ := vsAt_get hVa j x hx
                obtain ⟨q0, q1, q2, q3, q4, q5, q6, rfl⟩ := list7 (vAt_len hv)
                obtain ⟨bb, oo, rfl, -⟩ := hLa.2 (by
                  intro h0
                  have := flat_at (vsAt_all7 hVa) j 0 _ q0 hr rfl
                  rw [h0] at this
                  cases this)
                have hcells := cells_of_lies hLa (vsAt_all7 hVa) hr wr j3
                have z0 : wr.cell? ⟨bb, oo + j * 7, none⟩ = some q0 := hcells 0 q0 rfl
                have z1 : wr.cell? ⟨bb, oo + j * 7 + 1, none⟩ = some q1 := hcells 1 q1 rfl
                have z2 : wr.cell? ⟨bb, oo + j * 7 + 2, none⟩ = some q2 := hcells 2 q2 rfl
                have z3 : wr.cell? ⟨bb, oo + j * 7 + 3, none⟩ = some q3 := hcells 3 q3 rfl
                have z4 : wr.cell? ⟨bb, oo + j * 7 + 4, none⟩ = some q4 := hcells 4 q4 rfl
                have z5 : wr.cell? ⟨bb, oo + j * 7 + 5, none⟩ = some q5 := hcells 5 q5 rfl
                have z6 : wr.cell? ⟨bb, oo + j * 7 + 6, none⟩ = some q6 := hcells 6 q6 rfl
                have hcall : Calls Tryd.prog 47 #[.agg #[q0, q1, q2, q3, q4, q5, q6]] wr fun e w' => e = .returned (.tuple #[.int .i64 (sizeT x).1, .int .i64 (sizeT x).2.1, .bool (sizeT x).2.2]) ∧ Below wr.heap.size wr w' := ih x (by omega) bx _ wr (hv.below j3) (htab.below j3)
                obtain ⟨X, hX⟩ := named (extra k (ns.drop j) (pnAt ns j) (pvAt l j) x)
                obtain ⟨Z, hZ⟩ := named (sizeT x)
                rw [← hX.out, ← hZ.out] at hst
                rw [← hZ.out] at hcall
                clear hZ
                obtain ⟨zd, zc, zo⟩ := Z
                simp only at hst hcall
                have HS : Hid (R = finS (loopV k (ns.drop (j + 1)) (pnAt ns (j + 1)) (pvAt l (j + 1)) (max d zd, wrap64 (c + zc), zo && X) (l.drop (j + 1)))) := hst
                have hi0 : (0 : Int) ≤ (j : Int) := by omega
                have hi1 : (j : Int) < (l.length : Int) := by omega
                clear hst HL hcells ih
                go_upto_block 2 with (first | (at_builtin; fail))
                go_cut [2, 3, 4] (fun dd cc o wx => ∃ (d2 c2 : Int) (o2 : Bool), dd = .int .i64 d2 ∧ cc = .int .i64 c2 ∧ o = .bool o2 ∧ Hid (R = finS (loopV k (ns.drop (j + 1)) (pnAt ns (j + 1)) (pvAt l (j + 1)) (d2, c2, o2) (l.drop (j + 1)))) ∧ Blk wx w.heap.size (vRow k b n s t (.slice A ns.length ca) (.slice (some ⟨bb, oo, none⟩) l.length cb)) 37 ∧ Below w.heap.size w wx)
                case first =>
                 as_aux_lemma =>
                  go_wp2_with fail
                  refine hcall.mono ?_
                  rintro e w2 ⟨rfl, hb2⟩
                  have m1 := j1.below hb2
                  have m3 := bt j3 hb2
                  clear hcall z0 z1 z2 z3 z4 z5 z6 x6 j1 j3 hb2
                  have x0 : w2.cell? ⟨w.heap.size, 0, none⟩ = some (.int .u8 (k : Int)) := m1.cell 0
                  have hX0 := hX.out
                  unfold extra at hX0
                  rcases (show k = 4 ∨ k = 5 ∨ (k ≠ 4 ∧ k ≠ 5) by omega) with hk | hk | hk
                  · subst hk
                    rw [if_pos rfl] at hX0
                    rcases Nat.eq_zero_or_pos j with hj0 | hj0
                    · subst hj0
                      have hX1 : X = true := hX0
                      go_wp2
                      go_meet
                      case rel => exact ⟨_, _, zo, rfl, rfl, rfl, by rw [hX1, Bool.and_true] at HS; exact HS, m1, m3⟩
                    · obtain ⟨i, rfl⟩ : ∃ i, j = i + 1 := ⟨j - 1, by omega⟩
                      obtain ⟨p, hp⟩ : ∃ p, l[i]? = some p := ⟨l[i]'(by omega), List.getElem?_eq_getElem _⟩
                      have hX1 : X = decide (cmpV p x < 0) := by
                        rw [hX0]
                        unfold pvAt
                        rw [if_neg (by omega), Nat.add_sub_cancel, hp]
                      clear hX0
                      obtain ⟨rp, hrp, hvp⟩ := vsAt_get hVa i p hp
                      obtain ⟨p0, p1, p2, p3, p4, p5, p6, rfl⟩ := list7 (vAt_len hvp)
                      have hcp := cells_of_lies hLa (vsAt_all7 hVa) hrp
                      have hcq := cells_of_lies hLa (vsAt_all7 hVa) hr
                      have hcmp : ∀ u, Below w.heap.size w u → Calls Tryd.prog 34 #[.agg #[p0, p1, p2, p3, p4, p5, p6], .agg #[q0, q1, q2, q3, q4, q5, q6]] u fun e w' => e = .returned (.int .i64 (cmpV p x)) ∧ Below u.heap.size u w' := fun u hu => compare_n p.ht p x (Nat.le_refl _) bx bx _ _ u (hvp.below hu) (hv.below hu)
                      obtain ⟨C, hC⟩ := named (cmpV p x)
                      rw [← hC.out] at hcmp hX1
                      have hwi : IntKind.i64.wrap (i : Int) = (i : Int) := by rw [IntKind.wrap_i64]; omega
                      have e0 : ((i : Int) + 1).toNat = i + 1 := by omega
                      have g0 : (0 : Int) ≤ (i : Int) := by omega
                      have g1 : (i : Int) < (l.length : Int) := by omega
                      have g2 : (i : Int) + 1 < (l.length : Int) := by omega
                      have g3 : (0 : Int) < (i : Int) + 1 := by omega
                      have g4 : (0 : Int) ≤ (i : Int) + 1 := by omega
                      clear hp hrp hvp hv hr hx hC hVa hLa hX hi0 hi1 hTa HK5
                      cases zo with
                      | false =>
                        go_upto_region 23 with (go_quiet (fail))
                        clear x0
                        refine region_tail 16 _ (fun u => Blk u w.heap.size (vRow 4 b n s t (.slice A ns.length ca) (.slice (some ⟨bb, oo, none⟩) l.length cb)) 37 ∧ Below w.heap.size w u) (fun u u' => Below u.heap.size u u')
                          (rel [fun v _ => v = .bool false,
                            fun v _ => v = .bool false,
                            fun v _ => v = undef,
                            fun v _ => v = undef,
                            fun v _ => v = undef,
                            fun v _ => v = undef,
                            fun v _ => v = undef,
                            fun v _ => v = undef,
                            fun v _ => v = undef,
                            fun v _ => v = undef,
                            fun v _ => v = undef,
                            fun v _ => v = undef,
                            fun v _ => v = undef,
                            fun v _ => v = undef,
                            fun v _ => v = undef,
                            fun v _ => v = .bool false])
                          (by kernel_rfl) (by kernel_rfl) (by kernel_rfl) (by decide) (fun v => by simp only [putsV, List.take_succ_cons, List.take_zero, Act.put, List.toList_toArray, List.setIfInBounds_toArray, List.set_cons_zero, List.set_cons_succ, Nat.reduceAdd, Nat.zero_add]; rfl) ?_ ⟨m1, m3.drew⟩ ?_ ?_
                        · intro j x u u' hb h
                          match j with
                          | 0 => exact h
                          | 1 => exact h
                          | 2 => exact h
                          | 3 => exact h
                          | 4 => exact h
                          | 5 => exact h
                          | 6 => exact h
                          | 7 => exact h
                          | 8 => exact h
                          | 9 => exact h
                          | 10 => exact h
                          | 11 => exact h
                          | 12 => exact h
                          | 13 => exact h
                          | 14 => exact h
                          | 15 => exact h
                          | _ + 16 => trivial
                        · refine ⟨?_, ?_, ?_, ?_, ?_, ?_, ?_, ?_, ?_, ?_, ?_, ?_, ?_, ?_, ?_, ?_, trivial⟩
                          · intro v u hS hd K' hK
                            simp only [waited, List.toList_toArray, Region.binds, rel, List.getD_cons_zero, List.getD_cons_succ, true_imp_iff, and_true] at hd
                            simp only [rel, List.getD_cons_zero, List.getD_cons_succ, Act.put, List.setIfInBounds_toArray, List.set_cons_zero, List.set_cons_succ] at hK
                            try simp only [hd] at hK
                            obtain ⟨hS1, hS2⟩ := hS
                            go_simp
                            exact hK.out _ _ ⟨⟨hS1, hS2⟩, Below.refl _ _, rfl⟩
                          · intro v u hS hd K' hK
                            simp only [waited, List.toList_toArray, Region.binds, rel, List.getD_cons_zero, List.getD_cons_succ, true_imp_iff, and_true] at hd
                            simp only [rel, List.getD_cons_zero, List.getD_cons_succ, Act.put, List.setIfInBounds_toArray, List.set_cons_zero, List.set_cons_succ] at hK
                            try simp only [hd] at hK
                            obtain ⟨hS1, hS2⟩ := hS
                            go_simp
                            exact hK.out _ _ ⟨⟨hS1, hS2⟩, Below.refl _ _, rfl⟩
                          · intro v u hS hd K' hK
                            simp only [waited, List.toList_toArray, Region.binds, rel, List.getD_cons_zero, List.getD_cons_succ, true_imp_iff, and_true] at hd
                            simp only [rel, List.getD_cons_zero, List.getD_cons_succ, Act.put, List.setIfInBounds_toArray, List.set_cons_zero, List.set_cons_succ] at hK
                            try simp only [hd] at hK
                            obtain ⟨hS1, hS2⟩ := hS
                            go_simp
                            exact hK.out _ _ ⟨⟨hS1, hS2⟩, Below.refl _ _, rfl⟩
                          · intro v u hS hd K' hK
                            simp only [waited, List.toList_toArray, Region.binds, rel, List.getD_cons_zero, List.getD_cons_succ, true_imp_iff, and_true] at hd
                            simp only [rel, List.getD_cons_zero, List.getD_cons_succ, Act.put, List.setIfInBounds_toArray, List.set_cons_zero, List.set_cons_succ] at hK
                            try simp only [hd] at hK
                            obtain ⟨hS1, hS2⟩ := hS
                            go_simp
                            exact hK.out _ _ ⟨⟨hS1, hS2⟩, Below.refl _ _, rfl⟩
                          · intro v u hS hd K' hK
                            simp only [waited, List.toList_toArray, Region.binds, rel, List.getD_cons_zero, List.getD_cons_succ, true_imp_iff, and_true] at hd
                            simp only [rel, List.getD_cons_zero, List.getD_cons_succ, Act.put, List.setIfInBounds_toArray, List.set_cons_zero, List.set_cons_succ] at hK
                            try simp only [hd] at hK
                            obtain ⟨hS1, hS2⟩ := hS
                            go_simp
                            exact hK.out _ _ ⟨⟨hS1, hS2⟩, Below.refl _ _, rfl⟩
                          · intro v u hS hd K' hK
                            simp only [waited, List.toList_toArray, Region.binds, rel, List.getD_cons_zero, List.getD_cons_succ, true_imp_iff, and_true] at hd
                            simp only [rel, List.getD_cons_zero, List.getD_cons_succ, Act.put, List.setIfInBounds_toArray, List.set_cons_zero, List.set_cons_succ] at hK
                            try simp only [hd] at hK
                            obtain ⟨hS1, hS2⟩ := hS
                            go_simp
                            exact hK.out _ _ ⟨⟨hS1, hS2⟩, Below.refl _ _, rfl⟩
                          · intro v u hS hd K' hK
                            simp only [waited, List.toList_toArray, Region.binds, rel, List.getD_cons_zero, List.getD_cons_succ, true_imp_iff, and_true] at hd
                            simp only [rel, List.getD_cons_zero, List.getD_cons_succ, Act.put, List.setIfInBounds_toArray, List.set_cons_zero, List.set_cons_succ] at hK
                            try simp only [hd] at hK
                            obtain ⟨hS1, hS2⟩ := hS
                            go_simp
                            exact hK.out _ _ ⟨⟨hS1, hS2⟩, Below.refl _ _, rfl⟩
                          · intro v u hS hd K' hK
                            simp only [waited, List.toList_toArray, Region.binds, rel, List.getD_cons_zero, List.getD_cons_succ, true_imp_iff, and_true] at hd
                            simp only [rel, List.getD_cons_zero, List.getD_cons_succ, Act.put, List.setIfInBounds_toArray, List.set_cons_zero, List.set_cons_succ] at hK
                            try simp only [hd] at hK
                            obtain ⟨hS1, hS2⟩ := hS
                            go_simp
                            exact hK.out _ _ ⟨⟨hS1, hS2⟩, Below.refl _ _, rfl⟩
                          · intro v u hS hd K' hK
                            simp only [waited, List.toList_toArray, Region.binds, rel, List.getD_cons_zero, List.getD_cons_succ, true_imp_iff, and_true] at hd
                            simp only [rel, List.getD_cons_zero, List.getD_cons_succ, Act.put, List.setIfInBounds_toArray, List.set_cons_zero, List.set_cons_succ] at hK
                            try simp only [hd] at hK
                            obtain ⟨hS1, hS2⟩ := hS
                            go_simp
                            exact hK.out _ _ ⟨⟨hS1, hS2⟩, Below.refl _ _, rfl⟩
                          · intro v u hS hd K' hK
                            simp only [waited, List.toList_toArray, Region.binds, rel, List.getD_cons_zero, List.getD_cons_succ, true_imp_iff, and_true] at hd
                            simp only [rel, List.getD_cons_zero, List.getD_cons_succ, Act.put, List.setIfInBounds_toArray, List.set_cons_zero, List.set_cons_succ] at hK
                            try simp only [hd] at hK
                            obtain ⟨hS1, hS2⟩ := hS
                            go_simp
                            exact hK.out _ _ ⟨⟨hS1, hS2⟩, Below.refl _ _, rfl⟩
                          · intro v u hS hd K' hK
                            simp only [waited, List.toList_toArray, Region.binds, rel, List.getD_cons_zero, List.getD_cons_succ, true_imp_iff, and_true] at hd
                            simp only [rel, List.getD_cons_zero, List.getD_cons_succ, Act.put, List.setIfInBounds_toArray, List.set_cons_zero, List.set_cons_succ] at hK
                            try simp only [hd] at hK
                            obtain ⟨hS1, hS2⟩ := hS
                            go_simp
                            exact hK.out _ _ ⟨⟨hS1, hS2⟩, Below.refl _ _, rfl⟩
                          · intro v u hS hd K' hK
                            simp only [waited, List.toList_toArray, Region.binds, rel, List.getD_cons_zero, List.getD_cons_succ, true_imp_iff, and_true] at hd
                            simp only [rel, List.getD_cons_zero, List.getD_cons_succ, Act.put, List.setIfInBounds_toArray, List.set_cons_zero, List.set_cons_succ] at hK
                            try simp only [hd] at hK
                            obtain ⟨hS1, hS2⟩ := hS
                            go_simp
                            exact hK.out _ _ ⟨⟨hS1, hS2⟩, Below.refl _ _, rfl⟩
                          · intro v u hS hd K' hK
                            simp only [waited, List.toList_toArray, Region.binds, rel, List.getD_cons_zero, List.getD_cons_succ, true_imp_iff, and_true] at hd
                            simp only [rel, List.getD_cons_zero, List.getD_cons_succ, Act.put, List.setIfInBounds_toArray, List.set_cons_zero, List.set_cons_succ] at hK
                            try simp only [hd] at hK
                            obtain ⟨hS1, hS2⟩ := hS
                            go_simp
                            exact hK.out _ _ ⟨⟨hS1, hS2⟩, Below.refl _ _, rfl⟩
                          · intro v u hS hd K' hK
                            simp only [waited, List.toList_toArray, Region.binds, rel, List.getD_cons_zero, List.getD_cons_succ, true_imp_iff, and_true] at hd
                            simp only [rel, List.getD_cons_zero, List.getD_cons_succ, Act.put, List.setIfInBounds_toArray, List.set_cons_zero, List.set_cons_succ] at hK
                            try simp only [hd] at hK
                            obtain ⟨hS1, hS2⟩ := hS
                            go_simp
                            exact hK.out _ _ ⟨⟨hS1, hS2⟩, Below.refl _ _, rfl⟩
                          · intro v u hS hd K' hK
                            simp only [waited, List.toList_toArray, Region.binds, rel, List.getD_cons_zero, List.getD_cons_succ, true_imp_iff, and_true] at hd
                            simp only [rel, List.getD_cons_zero, List.getD_cons_succ, Act.put, List.setIfInBounds_toArray, List.set_cons_zero, List.set_cons_succ] at hK
                            try simp only [hd] at hK
                            obtain ⟨hS1, hS2⟩ := hS
                            go_simp
                            exact hK.out _ _ ⟨⟨hS1, hS2⟩, Below.refl _ _, rfl⟩
                          · intro v u hS hd K' hK
                            simp only [waited, List.toList_toArray, Region.binds, rel, List.getD_cons_zero, List.getD_cons_succ, true_imp_iff, and_true] at hd
                            simp only [rel, List.getD_cons_zero, List.getD_cons_succ, Act.put, List.setIfInBounds_toArray, List.set_cons_zero, List.set_cons_succ] at hK
                            try simp only [hd] at hK
                            obtain ⟨hS1, hS2⟩ := hS
                            go_simp
                            exact hK.out _ _ ⟨⟨hS1, hS2⟩, Below.refl _ _, rfl⟩
                        · rintro v u ⟨hS1, hS2⟩ hR
                          simp only [holdAll, List.size_toArray, List.length_cons, List.length_nil, Nat.reduceAdd, rel, List.getD_cons_zero, List.getD_cons_succ] at hR
                          simp only [List.toList_toArray, List.drop_succ_cons, List.drop_zero]
                          obtain ⟨-, h28⟩ := hR
                          simp only [h28]
                          clear h28
                          refine seqOps_cons fun K hK => ?_
                          go_simp
                          refine hK.out _ _ (seqOps_nil ?_)
                          clear hK
                          have x0 : u.cell? ⟨w.heap.size, 0, none⟩ = some (.int .u8 4) := hS1.cell 0
                          go_wp2
                          go_meet
                          case rel => exact ⟨_, _, false, rfl, rfl, rfl, HS, hS1, hS2⟩
                      | true =>
                        go_upto_region 23 with (go_quiet (fail))
                        clear x0
                        refine region_tail 16 _ (fun u => Blk u w.heap.size (vRow 4 b n s t (.slice A ns.length ca) (.slice (some ⟨bb, oo, none⟩) l.length cb)) 37 ∧ Below w.heap.size w u) (fun u u' => Below u.heap.size u u')
                          (rel [fun v _ => v = .bool true,
                            fun v _ => v = .bool true,
                            fun v _ => v = .pointer (some ⟨w.heap.size, 6, none⟩),
                            fun v _ => v = .slice (some ⟨bb, oo, none⟩) l.length cb,
                            fun v _ => v = .int .i64 ((i + 1 : Nat) : Int),
                            fun v _ => v = .int .i64 (i : Int),
                            fun v _ => v = .pointer (some ⟨bb, oo + i * 7, none⟩),
                            fun v _ => v = .agg #[p0, p1, p2, p3, p4, p5, p6],
                            fun v _ => v = .pointer (some ⟨w.heap.size, 6, none⟩),
                            fun v _ => v = .slice (some ⟨bb, oo, none⟩) l.length cb,
                            fun v _ => v = .int .i64 ((i + 1 : Nat) : Int),
                            fun v _ => v = .pointer (some ⟨bb, oo + (i + 1) * 7, none⟩),
                            fun v _ => v = .agg #[q0, q1, q2, q3, q4, q5, q6],
                            fun v _ => v = .int .i64 C,
                            fun v _ => v = .bool (decide (C < 0)),
                            fun v _ => v = .bool (decide (C < 0))])
                          (by kernel_rfl) (by kernel_rfl) (by kernel_rfl) (by decide) (fun v => by simp only [putsV, List.take_succ_cons, List.take_zero, Act.put, List.toList_toArray, List.setIfInBounds_toArray, List.set_cons_zero, List.set_cons_succ, Nat.reduceAdd, Nat.zero_add]; rfl) ?_ ⟨m1, m3.drew⟩ ?_ ?_
                        · intro j x u u' hb h
                          match j with
                          | 0 => exact h
                          | 1 => exact h
                          | 2 => exact h
                          | 3 => exact h
                          | 4 => exact h
                          | 5 => exact h
                          | 6 => exact h
                          | 7 => exact h
                          | 8 => exact h
                          | 9 => exact h
                          | 10 => exact h
                          | 11 => exact h
                          | 12 => exact h
                          | 13 => exact h
                          | 14 => exact h
                          | 15 => exact h
                          | _ + 16 => trivial
                        · refine ⟨?_, ?_, ?_, ?_, ?_, ?_, ?_, ?_, ?_, ?_, ?_, ?_, ?_, ?_, ?_, ?_, trivial⟩
                          · intro v u hS hd K' hK
                            simp only [waited, List.toList_toArray, Region.binds, rel, List.getD_cons_zero, List.getD_cons_succ, true_imp_iff, and_true] at hd
                            simp only [rel, List.getD_cons_zero, List.getD_cons_succ, Act.put, List.setIfInBounds_toArray, List.set_cons_zero, List.set_cons_succ] at hK
                            try simp only [hd] at hK
                            obtain ⟨hS1, hS2⟩ := hS
                            go_simp
                            exact hK.out _ _ ⟨⟨hS1, hS2⟩, Below.refl _ _, rfl⟩
                          · intro v u hS hd K' hK
                            simp only [waited, List.toList_toArray, Region.binds, rel, List.getD_cons_zero, List.getD_cons_succ, true_imp_iff, and_true] at hd
                            simp only [rel, List.getD_cons_zero, List.getD_cons_succ, Act.put, List.setIfInBounds_toArray, List.set_cons_zero, List.set_cons_succ] at hK
                            try simp only [hd] at hK
                            obtain ⟨hS1, hS2⟩ := hS
                            go_simp
                            exact hK.out _ _ ⟨⟨hS1, hS2⟩, Below.refl _ _, rfl⟩
                          · intro v u hS hd K' hK
                            simp only [waited, List.toList_toArray, Region.binds, rel, List.getD_cons_zero, List.getD_cons_succ, true_imp_iff, and_true] at hd
                            simp only [rel, List.getD_cons_zero, List.getD_cons_succ, Act.put, List.setIfInBounds_toArray, List.set_cons_zero, List.set_cons_succ] at hK
                            try simp only [hd] at hK
                            obtain ⟨hS1, hS2⟩ := hS
                            go_simp
                            exact hK.out _ _ ⟨⟨hS1, hS2⟩, Below.refl _ _, rfl⟩
                          · intro v u hS hd K' hK
                            simp only [waited, List.toList_toArray, Region.binds, rel, List.getD_cons_zero, List.getD_cons_succ, true_imp_iff, and_true] at hd
                            simp only [rel, List.getD_cons_zero, List.getD_cons_succ, Act.put, List.setIfInBounds_toArray, List.set_cons_zero, List.set_cons_succ] at hK
                            try simp only [hd] at hK
                            obtain ⟨hS1, hS2⟩ := hS
                            have x0 : u.cell? ⟨w.heap.size, 6, none⟩ = some (.slice (some ⟨bb, oo, none⟩) l.length cb) := hS1.cell 6
                            go_simp
                            exact hK.out _ _ ⟨⟨hS1, hS2⟩, Below.refl _ _, rfl⟩
                          · intro v u hS hd K' hK
                            simp only [waited, List.toList_toArray, Region.binds, rel, List.getD_cons_zero, List.getD_cons_succ, true_imp_iff, and_true] at hd
                            simp only [rel, List.getD_cons_zero, List.getD_cons_succ, Act.put, List.setIfInBounds_toArray, List.set_cons_zero, List.set_cons_succ] at hK
                            try simp only [hd] at hK
                            obtain ⟨hS1, hS2⟩ := hS
                            go_simp
                            exact hK.out _ _ ⟨⟨hS1, hS2⟩, Below.refl _ _, rfl⟩
                          · intro v u hS hd K' hK
                            simp only [waited, List.toList_toArray, Region.binds, rel, List.getD_cons_zero, List.getD_cons_succ, true_imp_iff, and_true] at hd
                            simp only [rel, List.getD_cons_zero, List.getD_cons_succ, Act.put, List.setIfInBounds_toArray, List.set_cons_zero, List.set_cons_succ] at hK
                            try simp only [hd] at hK
                            obtain ⟨hS1, hS2⟩ := hS
                            go_simp
                            exact hK.out _ _ ⟨⟨hS1, hS2⟩, Below.refl _ _, rfl⟩
                          · intro v u hS hd K' hK
                            simp only [waited, List.toList_toArray, Region.binds, rel, List.getD_cons_zero, List.getD_cons_succ, true_imp_iff, and_true] at hd
                            simp only [rel, List.getD_cons_zero, List.getD_cons_succ, Act.put, List.setIfInBounds_toArray, List.set_cons_zero, List.set_cons_succ] at hK
                            try simp only [hd] at hK
                            obtain ⟨hS1, hS2⟩ := hS
                            go_simp
                            exact hK.out _ _ ⟨⟨hS1, hS2⟩, Below.refl _ _, rfl⟩
                          · intro v u hS hd K' hK
                            simp only [waited, List.toList_toArray, Region.binds, rel, List.getD_cons_zero, List.getD_cons_succ, true_imp_iff, and_true] at hd
                            simp only [rel, List.getD_cons_zero, List.getD_cons_succ, Act.put, List.setIfInBounds_toArray, List.set_cons_zero, List.set_cons_succ] at hK
                            try simp only [hd] at hK
                            obtain ⟨hS1, hS2⟩ := hS
                            have x0 : u.cell? ⟨bb, oo + i * 7, none⟩ = some p0 := hcp u hS2 0 p0 rfl
                            have x1 : u.cell? ⟨bb, oo + i * 7 + 1, none⟩ = some p1 := hcp u hS2 1 p1 rfl
                            have x2 : u.cell? ⟨bb, oo + i * 7 + 2, none⟩ = some p2 := hcp u hS2 2 p2 rfl
                            have x3 : u.cell? ⟨bb, oo + i * 7 + 3, none⟩ = some p3 := hcp u hS2 3 p3 rfl
                            have x4 : u.cell? ⟨bb, oo + i * 7 + 4, none⟩ = some p4 := hcp u hS2 4 p4 rfl
                            have x5 : u.cell? ⟨bb, oo + i * 7 + 5, none⟩ = some p5 := hcp u hS2 5 p5 rfl
                            have x6 : u.cell? ⟨bb, oo + i * 7 + 6, none⟩ = some p6 := hcp u hS2 6 p6 rfl
                            go_simp
                            exact hK.out _ _ ⟨⟨hS1, hS2⟩, Below.refl _ _, rfl⟩
                          · intro v u hS hd K' hK
                            simp only [waited, List.toList_toArray, Region.binds, rel, List.getD_cons_zero, List.getD_cons_succ, true_imp_iff, and_true] at hd
                            simp only [rel, List.getD_cons_zero, List.getD_cons_succ, Act.put, List.setIfInBounds_toArray, List.set_cons_zero, List.set_cons_succ] at hK
                            try simp only [hd] at hK
                            obtain ⟨hS1, hS2⟩ := hS
                            go_simp
                            exact hK.out _ _ ⟨⟨hS1, hS2⟩, Below.refl _ _, rfl⟩
                          · intro v u hS hd K' hK
                            simp only [waited, List.toList_toArray, Region.binds, rel, List.getD_cons_zero, List.getD_cons_succ, true_imp_iff, and_true] at hd
                            simp only [rel, List.getD_cons_zero, List.getD_cons_succ, Act.put, List.setIfInBounds_toArray, List.set_cons_zero, List.set_cons_succ] at hK
                            try simp only [hd] at hK
                            obtain ⟨hS1, hS2⟩ := hS
                            have x0 : u.cell? ⟨w.heap.size, 6, none⟩ = some (.slice (some ⟨bb, oo, none⟩) l.length cb) := hS1.cell 6
                            go_simp
                            exact hK.out _ _ ⟨⟨hS1, hS2⟩, Below.refl _ _, rfl⟩
                          · intro v u hS hd K' hK
                            simp only [waited, List.toList_toArray, Region.binds, rel, List.getD_cons_zero, List.getD_cons_succ, true_imp_iff, and_true] at hd
                            simp only [rel, List.getD_cons_zero, List.getD_cons_succ, Act.put, List.setIfInBounds_toArray, List.set_cons_zero, List.set_cons_succ] at hK
                            try simp only [hd] at hK
                            obtain ⟨hS1, hS2⟩ := hS
                            go_simp
                            exact hK.out _ _ ⟨⟨hS1, hS2⟩, Below.refl _ _, rfl⟩
                          · intro v u hS hd K' hK
                            simp only [waited, List.toList_toArray, Region.binds, rel, List.getD_cons_zero, List.getD_cons_succ, true_imp_iff, and_true] at hd
                            simp only [rel, List.getD_cons_zero, List.getD_cons_succ, Act.put, List.setIfInBounds_toArray, List.set_cons_zero, List.set_cons_succ] at hK
                            try simp only [hd] at hK
                            obtain ⟨hS1, hS2⟩ := hS
                            go_simp
                            exact hK.out _ _ ⟨⟨hS1, hS2⟩, Below.refl _ _, rfl⟩
                          · intro v u hS hd K' hK
                            simp only [waited, List.toList_toArray, Region.binds, rel, List.getD_cons_zero, List.getD_cons_succ, true_imp_iff, and_true] at hd
                            simp only [rel, List.getD_cons_zero, List.getD_cons_succ, Act.put, List.setIfInBounds_toArray, List.set_cons_zero, List.set_cons_succ] at hK
                            try simp only [hd] at hK
                            obtain ⟨hS1, hS2⟩ := hS
                            have x0 : u.cell? ⟨bb, oo + (i + 1) * 7, none⟩ = some q0 := hcq u hS2 0 q0 rfl
                            have x1 : u.cell? ⟨bb, oo + (i + 1) * 7 + 1, none⟩ = some q1 := hcq u hS2 1 q1 rfl
                            have x2 : u.cell? ⟨bb, oo + (i + 1) * 7 + 2, none⟩ = some q2 := hcq u hS2 2 q2 rfl
                            have x3 : u.cell? ⟨bb, oo + (i + 1) * 7 + 3, none⟩ = some q3 := hcq u hS2 3 q3 rfl
                            have x4 : u.cell? ⟨bb, oo + (i + 1) * 7 + 4, none⟩ = some q4 := hcq u hS2 4 q4 rfl
                            have x5 : u.cell? ⟨bb, oo + (i + 1) * 7 + 5, none⟩ = some q5 := hcq u hS2 5 q5 rfl
                            have x6 : u.cell? ⟨bb, oo + (i + 1) * 7 + 6, none⟩ = some q6 := hcq u hS2 6 q6 rfl
                            go_simp
                            exact hK.out _ _ ⟨⟨hS1, hS2⟩, Below.refl _ _, rfl⟩
                          · intro v u hS hd K' hK
                            simp only [waited, List.toList_toArray, Region.binds, rel, List.getD_cons_zero, List.getD_cons_succ, true_imp_iff, and_true] at hd
                            simp only [rel, List.getD_cons_zero, List.getD_cons_succ, Act.put, List.setIfInBounds_toArray, List.set_cons_zero, List.set_cons_succ] at hK
                            try simp only [hd] at hK
                            obtain ⟨hS1, hS2⟩ := hS
                            go_simp
                            refine (hcmp _ hS2).mono ?_
                            rintro e w2 ⟨rfl, hb2⟩
                            exact hK.out _ _ ⟨⟨hS1.below hb2, bt hS2 hb2⟩, hb2, rfl⟩
                          · intro v u hS hd K' hK
                            simp only [waited, List.toList_toArray, Region.binds, rel, List.getD_cons_zero, List.getD_cons_succ, true_imp_iff, and_true] at hd
                            simp only [rel, List.getD_cons_zero, List.getD_cons_succ, Act.put, List.setIfInBounds_toArray, List.set_cons_zero, List.set_cons_succ] at hK
                            try simp only [hd] at hK
                            obtain ⟨hS1, hS2⟩ := hS
                            go_simp
                            exact hK.out _ _ ⟨⟨hS1, hS2⟩, Below.refl _ _, rfl⟩
                          · intro v u hS hd K' hK
                            simp only [waited, List.toList_toArray, Region.binds, rel, List.getD_cons_zero, List.getD_cons_succ, true_imp_iff, and_true] at hd
                            simp only [rel, List.getD_cons_zero, List.getD_cons_succ, Act.put, List.setIfInBounds_toArray, List.set_cons_zero, List.set_cons_succ] at hK
                            try simp only [hd] at hK
                            obtain ⟨hS1, hS2⟩ := hS
                            go_simp
                            exact hK.out _ _ ⟨⟨hS1, hS2⟩, Below.refl _ _, rfl⟩
                        · rintro v u ⟨hS1, hS2⟩ hR
                          simp only [holdAll, List.size_toArray, List.length_cons, List.length_nil, Nat.reduceAdd, rel, List.getD_cons_zero, List.getD_cons_succ] at hR
                          simp only [List.toList_toArray, List.drop_succ_cons, List.drop_zero]
                          obtain ⟨-, h28⟩ := hR
                          simp only [h28]
                          clear h28
                          refine seqOps_cons fun K hK => ?_
                          go_simp
                          refine hK.out _ _ (seqOps_nil ?_)
                          clear hK
                          have x0 : u.cell? ⟨w.heap.size, 0, none⟩ = some (.int .u8 4) := hS1.cell 0
                          go_wp2
                          go_meet
                          case rel => exact ⟨_, _, (decide (C < 0)), rfl, rfl, rfl, by rw [hX1, Bool.true_and] at HS; exact HS, hS1, hS2⟩
                  · subst hk
                    rw [if_neg (by decide), if_pos rfl] at hX0
                    have hnl := HK5.out hT rfl
                    obtain ⟨a, ha⟩ : ∃ a, ns[j]? = some a := ⟨ns[j]'(by omega), List.getElem?_eq_getElem _⟩
                    have hX1 : X = nmOk (pnAt ns j) a := by
                      rw [hX0]
                      obtain ⟨h, rfl⟩ := List.getElem?_eq_some_iff.1 ha
                      rw [List.drop_eq_getElem_cons h]
                    clear hX0
                    obtain ⟨ba, oa, rfl, -⟩ := hTa.at_ (show j < ns.length by omega)
                    have hca := cell_below' (text_cell hTa ha) m3
                    have x5 : w2.cell? ⟨w.heap.size, 5, none⟩ = some (.slice (some ⟨ba, oa, none⟩) ns.length ca) := m1.cell 5
                    have hasz := hnsz a (List.mem_of_getElem? ha)
                    unfold mLen at hasz
                    have hvl : ∀ u, Below w.heap.size w u → Calls Tryd.prog 31 #[.string a] u fun e w' => e = .returned (.bool (Lib.validD a.data.toList)) ∧ Below u.heap.size u w' := fun u hu => valid_w a u hasz (htab.below hu)
                    unfold nmOk at hX1
                    obtain ⟨V, hV⟩ := named (Lib.validD a.data.toList)
                    rw [← hV.out] at hvl hX1
                    have HX1 := hide hX1
                    have i1 : (j : Int) < (ns.length : Int) := by omega
                    have hca0 : j = 0 → w2.cell? ⟨ba, oa, none⟩ = some (.string a) := fun h => by subst h; exact hca
                    have HC0 := hide hca0
                    clear hX1 hV ha hX hv hr hx hVa hLa HK5 hi1 hnl hca0
                    cases zo with
                    | false =>
                      by_cases hj0 : j = 0
                      · subst hj0
                        have hc0 := HC0.out rfl
                        go_wp2
                        go_meet
                        case rel => exact ⟨_, _, false, rfl, rfl, rfl, HS, m1, m3⟩
                      · have hjp : (0 : Int) < (j : Int) := by omega
                        go_wp2
                        go_meet
                        case rel => exact ⟨_, _, false, rfl, rfl, rfl, HS, m1, m3⟩
                    | true =>
                      cases hemp : a.toList.isEmpty with
                      | true =>
                        have HS2 : Hid (R = finS (loopV 5 (ns.drop (j + 1)) (pnAt ns (j + 1)) (pvAt l (j + 1)) (max d zd, wrap64 (c + zc), false) (l.drop (j + 1)))) := by rw [HX1.out, hemp] at HS; exact HS
                        clear HS HX1
                        by_cases hj0 : j = 0
                        · subst hj0
                          have hc0 := HC0.out rfl
                          go_wp2
                          go_meet
                          case rel => exact ⟨_, _, false, rfl, rfl, rfl, HS2, m1, m3⟩
                        · have hjp : (0 : Int) < (j : Int) := by omega
                          go_wp2
                          go_meet
                          case rel => exact ⟨_, _, false, rfl, rfl, rfl, HS2, m1, m3⟩
                      | false =>
                        by_cases hsz : a.size ≤ 64
                        · have hszi : (a.size : Int) ≤ 64 := by omega
                          by_cases hj0 : j = 0
                          · subst hj0
                            have hc0 := HC0.out rfl
                            have HS2 : Hid (R = finS (loopV 5 (ns.drop (0 + 1)) (pnAt ns (0 + 1)) (pvAt l (0 + 1)) (max d zd, wrap64 (c + zc), V) (l.drop (0 + 1)))) := by
                              have h1 : X = V := by rw [HX1.out, hemp, decide_eq_true hsz]; simp [pnAt]
                              rw [h1] at HS
                              exact HS
                            clear HS HX1
                            go_wp2_with fail
                            refine (hvl _ m3).mono ?_
                            rintro e w3 ⟨rfl, hb3⟩
                            replace m1 := m1.below hb3
                            replace m3 := bt m3 hb3
                            clear hvl x5 x0 hca hc0 HC0 hb3
                            cases V <;> (go_wp2; go_meet; case rel => exact ⟨_, _, _, rfl, rfl, rfl, HS2, m1, m3⟩)
                          · obtain ⟨i, rfl⟩ : ∃ i, j = i + 1 := ⟨j - 1, by omega⟩
                            obtain ⟨pr, hpr⟩ : ∃ a, ns[i]? = some a := ⟨ns[i]'(by omega), List.getElem?_eq_getElem _⟩
                            have hcp := cell_below' (text_cell hTa hpr) m3
                            have HS2 : Hid (R = finS (loopV 5 (ns.drop (i + 1 + 1)) (pnAt ns (i + 1 + 1)) (pvAt l (i + 1 + 1)) (max d zd, wrap64 (c + zc), V && Op.bytesLess pr.toList a.toList) (l.drop (i + 1 + 1)))) := by
                              have h1 : X = (V && Op.bytesLess pr.toList a.toList) := by
                                rw [HX1.out, hemp, decide_eq_true hsz]
                                unfold pnAt
                                rw [if_neg (by omega), Nat.add_sub_cancel, hpr]
                                rfl
                              rw [h1] at HS
                              exact HS
                            have hwi : IntKind.i64.wrap (i : Int) = (i : Int) := by rw [IntKind.wrap_i64]; omega
                            have e0 : ((i : Int) + 1).toNat = i + 1 := by omega
                            have g0 : (0 : Int) ≤ (i : Int) := by omega
                            have g1 : (i : Int) < (ns.length : Int) := by omega
                            have g2 : (i : Int) + 1 < (ns.length : Int) := by omega
                            have g3 : (0 : Int) < (i : Int) + 1 := by omega
                            have g4 : (0 : Int) ≤ (i : Int) + 1 := by omega
                            have g5 : ((i : Int) + 1 == 0) = false := by rw [beq_eq_false_iff_ne]; omega
                            have g6 : ¬ (i : Int) + 1 = 0 := by omega
                            clear HS HX1 hpr hTa
                            go_wp2_with fail
                            refine (hvl _ m3).mono ?_
                            rintro e w3 ⟨rfl, hb3⟩
                            replace m1 := m1.below hb3
                            replace m3 := bt m3 hb3
                            have y5 : w3.cell? ⟨w.heap.size, 5, none⟩ = some (.slice (some ⟨ba, oa, none⟩) ns.length ca) := m1.cell 5
                            have yp := cell_below' hcp hb3
                            clear hvl x5 x0 hca hcp hb3
                            cases V <;> (go_wp2; go_meet; case rel => exact ⟨_, _, _, rfl, rfl, rfl, HS2, m1, m3⟩)
                        · have hszi : ¬ (a.size : Int) ≤ 64 := by omega
                          have HS2 : Hid (R = finS (loopV 5 (ns.drop (j + 1)) (pnAt ns (j + 1)) (pvAt l (j + 1)) (max d zd, wrap64 (c + zc), false) (l.drop (j + 1)))) := by rw [HX1.out, hemp, decide_eq_false hsz] at HS; exact HS
                          clear HS HX1
                          by_cases hj0 : j = 0
                          · subst hj0
                            have hc0 := HC0.out rfl
                            go_wp2
                            go_meet
                            case rel => exact ⟨_, _, false, rfl, rfl, rfl, HS2, m1, m3⟩
                          · have hjp : (0 : Int) < (j : Int) := by omega
                            go_wp2
                            go_meet
                            case rel => exact ⟨_, _, false, rfl, rfl, rfl, HS2, m1, m3⟩
                  · rw [if_neg hk.1, if_neg hk.2] at hX0
                    have f4 : ((k : Int) == 4) = false := by rw [beq_eq_false_iff_ne]; omega
                    have f5 : ((k : Int) == 5) = false := by rw [beq_eq_false_iff_ne]; omega
                    by_cases hj0 : j = 0
                    · subst hj0
                      go_wp2
                      go_meet
                      case rel => exact ⟨_, _, zo, rfl, rfl, rfl, by rw [hX0, Bool.and_true] at HS; exact HS, m1, m3⟩
                    · have hjp : (0 : Int) < (j : Int) := by omega
                      go_wp2
                      go_meet
                      case rel => exact ⟨_, _, zo, rfl, rfl, rfl, by rw [hX0, Bool.and_true] at HS; exact HS, m1, m3⟩
                case rest =>
                  obtain ⟨d2, c2, o2, rfl, rfl, rfl, HS2, n1, n3⟩ := hcut
                  clear HS hcall z0 z1 z2 z3 z4 z5 z6 x6 j1 j3 hX
                  go_wp2_with (go_quiet (fail))
                  go_roundw
                  case rel => exact ⟨d2, c2, o2, j + 1, rfl, rfl, rfl, by go_num, by omega, fun _ => hT, HS2, n1, n3⟩
                  case measure => simp [intOf]; omega
              · have hjl : j = l.length := by omega
                have hRf : R = (wrap64 (d + 1), wrap64 (c + 1), true) := by rw [HL.out, loop_end _ _ _ _ _ (by omega)]; rfl
                have HRf := hide hRf
                clear hRf HL ih hLa hVa hTa HK5
                subst hjl
                go_wp2_with (first | (at_builtin; fail))
                go_ret3
                exact ⟨by rw [HRf.out]; rfl, j3⟩
end Go.Proofs.YtmnfmgoolimlmaaDoor
