/- record.Sectors, of a right frame. -/
import Derived.Test.YtpfbmmeipojodaaRecHead
import Derived.Test.YtpfbmmeipojodaaRecChunk
import Derived.Test.YtpfbmmeipojodaaRecSmall
import Derived.Test.YtpfbmmeipojodaaGB
import Derived.RangeFuncWrites
namespace Go.Proofs.Ytpfbmmeipojodaa
set_option linter.unusedSimpArgs false
set_option linter.unusedVariables false
open Go.RowKit Go.Shelf
open Crc
attribute [local go_sem] Oper.semAt_some
theorem and_first {a b c d e f g h i j k l : Prop} (x : (((((((((((True ∧ a) ∧ b) ∧ c) ∧ d) ∧ e) ∧ f) ∧ g) ∧ h) ∧ i) ∧ j) ∧ k) ∧ l) : a := x.1.1.1.1.1.1.1.1.1.1.1.2
def pieceMix (p : List UInt8) (i x : Nat) : List UInt8 := fillL 64 ([66, UInt8.ofNat (i % 256), UInt8.ofNat (i / 256)] ++ (p.drop (61 * x)).take 61)
theorem mix_upto (l : List UInt8) (k : Nat) : (uptoN k).mapIdx (fun i x => str (pieceMix l i x)) = (List.range k).map (fun i => str (pieceL l i)) := by
  apply List.ext_getElem
  · simp [uptoN]
  · intro i h1 h2
    simp [uptoN]
    rfl
theorem conv_blk {P : Program} {l : List UInt8} {E : TypeId} {g : Nat} {w : World} (h : Blk w g (cellsOf l) E) (src dst e : TypeId) (hs : P.underlying src = some (.slice e)) (he : P.underlying e = some (.int .u8)) (hd : P.underlying dst = some .string) (n : Nat) (hn : l.length = n) :
    (convert src dst (.slice (some ⟨g, 0, none⟩) n n)).run P w = .ok (.string (str l)) w := by
  subst hn
  refine run_convert_bytes_back w src dst e _ _ l hs he hd ?_
  intro j hj
  rw [addr_add, h.cell, Nat.zero_add]
  simp [cellsOf, hj]
theorem conv_chunk {P : Program} (p : ByteArray) (gb x : Nat) (u : World) (src dst e : TypeId) (hs : P.underlying src = some (.slice e)) (he : P.underlying e = some (.int .u8)) (hd : P.underlying dst = some .string)
    (hc : ∀ (j : Nat) (hj : j < p.size), u.cell? ⟨gb, j, none⟩ = some (.int .u8 (p[j].toNat : Int))) :
    (convert src dst (.slice (some ⟨gb, 61 * x, none⟩) (chN p.size x) (chN p.size x))).run P u = .ok (.string (str ((p.data.toList.drop (61 * x)).take 61))) u := by
  have hl : p.data.toList.length = p.size := Array.length_toList
  have hlen : ((p.data.toList.drop (61 * x)).take 61).length = chN p.size x := by rw [List.length_take, List.length_drop, hl]; rfl
  rw [← hlen]
  refine run_convert_bytes_back u src dst e _ _ _ hs he hd ?_
  intro j hj
  rw [List.length_take, List.length_drop, hl] at hj
  rw [addr_add, hc (61 * x + j) (by omega)]
  simp
  rfl
theorem blk_ownG {W W' : World} {g : Nat} {vs : List Value} {t : TypeId} {row : Option Nat} (h : Blk W g vs t) (hg : W.grownBy W' row) (hr : ∀ r, row = some r → ∃ o : Obj, W.heap[r]? = some o ∧ o.isCells = false) : Blk W' g vs t :=
  (hg.block g h.lt (fun e => by obtain ⟨o, ho, hc⟩ := hr g e.symm; rw [show W.heap[g]? = _ from h] at ho; cases ho; cases hc)).trans h
theorem own_ownG {W W' : World} {base : Nat} {e : TypeId} {size n : Nat} {v : Value} {xs : List Value} {row : Option Nat} (h : W.ownsRow base e size v n xs) (hg : W.grownBy W' row) (hr : ∀ r, row = some r → ∃ o : Obj, W.heap[r]? = some o ∧ o.isCells = false) : W'.ownsRow base e size v n xs := by
  refine ⟨h.1, ?_⟩
  rcases h.2 with h' | ⟨g, cap, cur, hv, hgb, hh, h'⟩
  · exact .inl h'
  · exact .inr ⟨g, cap, cur, hv, hgb, (hg.block g (Array.getElem?_eq_some_iff.1 hh).1 (fun e => by obtain ⟨o, ho, hc⟩ := hr g e.symm; rw [hh] at ho; cases ho; cases hc)).trans hh, h'⟩
theorem keeps_below {B : Nat} {W W' : World} (h : Below W.heap.size W W') : KeepsFrom B W W' :=
  ⟨h.size, fun k _ _ hk _ => (h.block k (Array.getElem?_eq_some_iff.1 hk).1).trans hk⟩
theorem own_cells {W : World} {base : Nat} {e : TypeId} {size n g c m : Nat} {xs : List Value} (h : W.ownsRow base e size (.slice (some ⟨g, 0, none⟩) m c) n xs) : ∃ cur, W.heap[g]? = some (.cells cur e (0, 0)) ∧ base ≤ g := by
  rcases h.2 with ⟨h', _⟩ | ⟨g', cap, cur, hv, hb, hh, _⟩
  · cases h'
  · cases hv
    exact ⟨cur, hh, hb⟩
/-- What stands between the rounds. -/
structure SecInv (w : World) (ga gb : Nat) (fr : List Value) (p H : ByteArray) (pre : List Nat) (W : World) : Prop where
  row : ∃ g0 c0, (g0 ≠ ga ∧ g0 ≠ w.heap.size ∧ g0 ≠ gb ∧ g0 ≠ gb + 1 ∧ g0 ≠ gb + 2) ∧ Blk W ga [.slice (some ⟨g0, 0, none⟩) (pre.length + 1) c0] 22 ∧
    W.ownsRow w.heap.size 9 1 (.slice (some ⟨g0, 0, none⟩) (pre.length + 1) c0) (pre.length + 1) (strs (H :: pre.mapIdx fun i x => str (pieceMix p.data.toList i x)))
  frame : Blk W w.heap.size fr 61
  bytes : ∀ (j : Nat) (hj : j < p.size), W.cell? ⟨gb, j, none⟩ = some (.int .u8 (p[j].toNat : Int))
  below : Below w.heap.size w W
  size : gb + 3 ≤ W.heap.size
theorem SecInv.ownG {w : World} {ga gb : Nat} {fr : List Value} {p H : ByteArray} {pre : List Nat} {W W' : World} {row : Option Nat} (h : SecInv w ga gb fr p H pre W) (hg : W.grownBy W' row) (hr : ∀ r, row = some r → gb + 3 ≤ r ∧ ∃ o : Obj, W.heap[r]? = some o ∧ o.isCells = false) (hw : w.heap.size ≤ gb) : SecInv w ga gb fr p H pre W' := by
  obtain ⟨⟨g0, c0, h1, h2, h3⟩, h4, h5, h6, h7⟩ := h
  refine ⟨⟨g0, c0, h1, blk_ownG h2 hg (fun r e => (hr r e).2), own_ownG h3 hg (fun r e => (hr r e).2)⟩, blk_ownG h4 hg (fun r e => (hr r e).2), fun j hj => ?_, ?_, Nat.le_trans h7 hg.size⟩
  · exact (hg.cell_far ⟨gb, j, none⟩ (by show gb < _; omega) (fun e => by have := (hr gb e.symm).1; omega)).trans (h5 j hj)
  · exact h6.grown hg h6.size (fun k e => by have := (hr k e).1; omega)
set_option maxHeartbeats 16000000 in
set_option maxRecDepth 100000 in
theorem recSectors_yes (kind : UInt8) (epoch seq : Nat) (p : ByteArray) (w : World) (hk : kind ≠ 0) (hp : p.size ≤ 16384) :
    Calls Try.prog 25 #[.agg #[.int .u8 (kind.toNat : Int), .int .u64 (epoch : Int), .int .u64 (seq : Int), .string p]] w fun e w' =>
      (∃ A c, e = .returned (.tuple #[.slice A (piecesN p.size + 1) c, .int .i64 0]) ∧ piecesN p.size + 1 ≤ c ∧ Texts w' A ((sectorsL ⟨kind, epoch, seq, p.data.toList⟩).map str)) ∧ Below w.heap.size w w' := by
  have hl : p.data.toList.length = p.size := Array.length_toList
  have hl0 := hide hl
  have hE : frCheck ⟨kind, epoch, seq, p.data.toList⟩ = 0 := by simp only [frCheck, hk, if_false, hl, if_neg (Nat.not_lt.2 hp)]
  obtain ⟨sm, Hsm⟩ := named (crcOf p.data.toList)
  have hsum : ∀ u, Calls Try.prog 23 #[.string p] u fun e w' => e = .returned (.int .u32 (sm : Int)) ∧ u = w' := fun u => by
    rw [Hsm.out]; exact sum_w p u (Nat.le_trans hp (by decide))
  obtain ⟨H, HH⟩ := named (str (headL kind epoch seq p.size sm))
  have hhead : ∀ u, Calls Try.prog 43 #[.agg #[.int .u8 (kind.toNat : Int), .int .u64 (epoch : Int), .int .u64 (seq : Int), .int .i64 (p.size : Int), .int .u32 (sm : Int)]] u fun e w' => e = .returned (.string H) ∧ Below u.heap.size u w' := fun u => by
    rw [HH.out]; exact head_w kind epoch seq p.size sm u (by omega) (by rw [Hsm.out]; exact crcOf_lt _)
  have hcheck := recCheck_w kind epoch seq p
  rw [hE] at hcheck
  have K := Blk.new w [.int .u8 (kind.toNat : Int), .int .u64 (epoch : Int), .int .u64 (seq : Int), .string p] 61
  have b0 := below_alloc w (.cells #[.int .u8 (kind.toNat : Int), .int .u64 (epoch : Int), .int .u64 (seq : Int), .string p] 61)
  have hmx : Try.prog.follows .mixedOrders = true := by kernel_rfl
  refine (callsIn_wide (n := 5)).1 ?_
  refine callsIn_of_wp_marks Try.func25 rfl trivial ?_ rfl
  simp only [Try.ntmps25, List.size_toArray, List.length_cons, List.length_nil, Nat.reduceAdd, Nat.reduceSub, Array.replicate_succ, Array.replicate_zero, List.push_toArray, List.append_toArray, List.nil_append, List.cons_append]
  gi_wp2_with fail
  refine ⟨trivial, ?_⟩
  refine (callsIn_wide.2 (hcheck _)).mono ?_
  rintro e W ⟨rfl, hb⟩
  have K1 := K.below hb
  have bW := bt b0 hb
  clear K b0 hb hcheck hE
  gi_wp2_with fail
  refine region_tailIn (easy_wide) 16 _ (fun u => Blk u w.heap.size [.int .u8 (kind.toNat : Int), .int .u64 (epoch : Int), .int .u64 (seq : Int), .string p] 61 ∧ Below w.heap.size w u ∧ W.heap.size ≤ u.heap.size) (fun u u' => Below u.heap.size u u')
    (rel [fun v _ => v = .pointer (some ⟨w.heap.size, 0, none⟩),
      fun v _ => v = .int .u8 (kind.toNat : Int),
      fun v _ => v = .pointer (some ⟨w.heap.size, 1, none⟩),
      fun v _ => v = .int .u64 (epoch : Int),
      fun v _ => v = .pointer (some ⟨w.heap.size, 2, none⟩),
      fun v _ => v = .int .u64 (seq : Int),
      fun v _ => v = .pointer (some ⟨w.heap.size, 3, none⟩),
      fun v _ => v = .string p,
      fun v _ => v = .int .i64 (p.size : Int),
      fun v _ => v = .pointer (some ⟨w.heap.size, 3, none⟩),
      fun v _ => v = .string p,
      fun v _ => v = .int .u32 (sm : Int),
      fun v _ => v = .agg #[.int .u8 (kind.toNat : Int), .int .u64 (epoch : Int), .int .u64 (seq : Int), .int .i64 (p.size : Int), .int .u32 (sm : Int)],
      fun v _ => v = .string H,
      fun v u => ∃ g, v = .slice (some ⟨g, 0, none⟩) 1 1 ∧ W.heap.size ≤ g ∧ Blk u g [.string H] 9,
      fun v u => ∃ g, v = .pointer (some ⟨g, 0, none⟩) ∧ W.heap.size ≤ g ∧ Blk u g [.slice none 0 0] 22])
    (by kernel_rfl) (by kernel_rfl) (by kernel_rfl) (by kernel_rfl) (by decide) (fun v => by simp only [putsV, List.take_succ_cons, List.take_zero, Act.put, List.toList_toArray, List.setIfInBounds_toArray, List.set_cons_zero, List.set_cons_succ, Nat.reduceAdd, Nat.zero_add]; rfl) ?_ ⟨K1, bW.drew, Nat.le_refl _⟩ ?_ ?_
  · intro j x u u' hb h
    match j with
    | 0 => exact h
    | 1 => exact h
    | 2 => exact h
    | 3 => exact h
    | 4 => exact h
    | 5 => exact h
    | 6 => exact h
    | 7 => exact h
    | 8 => exact h
    | 9 => exact h
    | 10 => exact h
    | 11 => exact h
    | 12 => exact h
    | 13 => exact h
    | 14 => exact (let ⟨g, e, hle, hg⟩ := h; ⟨g, e, hle, hg.below hb⟩)
    | 15 => exact (let ⟨g, e, hle, hg⟩ := h; ⟨g, e, hle, hg.below hb⟩)
    | _ + 16 => trivial
  · refine ⟨?_, ?_, ?_, ?_, ?_, ?_, ?_, ?_, ?_, ?_, ?_, ?_, ?_, ?_, ?_, ?_, trivial⟩
    · intro v u hS hd K' hK
      simp only [waited, List.toList_toArray, Region.binds, rel, List.getD_cons_zero, List.getD_cons_succ, true_imp_iff, and_true] at hd
      simp only [rel, List.getD_cons_zero, List.getD_cons_succ, Act.put, List.setIfInBounds_toArray, List.set_cons_zero, List.set_cons_succ] at hK
      try simp only [hd] at hK
      obtain ⟨hS1, hS2, hS3⟩ := hS
      go_simp
      exact hK.out _ _ ⟨⟨hS1, hS2, hS3⟩, Below.refl _ _, rfl⟩
    · intro v u hS hd K' hK
      simp only [waited, List.toList_toArray, Region.binds, rel, List.getD_cons_zero, List.getD_cons_succ, true_imp_iff, and_true] at hd
      simp only [rel, List.getD_cons_zero, List.getD_cons_succ, Act.put, List.setIfInBounds_toArray, List.set_cons_zero, List.set_cons_succ] at hK
      try simp only [hd] at hK
      obtain ⟨hS1, hS2, hS3⟩ := hS
      have x0 := hS1.cell 0
      go_simp
      exact hK.out _ _ ⟨⟨hS1, hS2, hS3⟩, Below.refl _ _, rfl⟩
    · intro v u hS hd K' hK
      simp only [waited, List.toList_toArray, Region.binds, rel, List.getD_cons_zero, List.getD_cons_succ, true_imp_iff, and_true] at hd
      simp only [rel, List.getD_cons_zero, List.getD_cons_succ, Act.put, List.setIfInBounds_toArray, List.set_cons_zero, List.set_cons_succ] at hK
      try simp only [hd] at hK
      obtain ⟨hS1, hS2, hS3⟩ := hS
      go_simp
      exact hK.out _ _ ⟨⟨hS1, hS2, hS3⟩, Below.refl _ _, rfl⟩
    · intro v u hS hd K' hK
      simp only [waited, List.toList_toArray, Region.binds, rel, List.getD_cons_zero, List.getD_cons_succ, true_imp_iff, and_true] at hd
      simp only [rel, List.getD_cons_zero, List.getD_cons_succ, Act.put, List.setIfInBounds_toArray, List.set_cons_zero, List.set_cons_succ] at hK
      try simp only [hd] at hK
      obtain ⟨hS1, hS2, hS3⟩ := hS
      have x0 := hS1.cell 1
      go_simp
      exact hK.out _ _ ⟨⟨hS1, hS2, hS3⟩, Below.refl _ _, rfl⟩
    · intro v u hS hd K' hK
      simp only [waited, List.toList_toArray, Region.binds, rel, List.getD_cons_zero, List.getD_cons_succ, true_imp_iff, and_true] at hd
      simp only [rel, List.getD_cons_zero, List.getD_cons_succ, Act.put, List.setIfInBounds_toArray, List.set_cons_zero, List.set_cons_succ] at hK
      try simp only [hd] at hK
      obtain ⟨hS1, hS2, hS3⟩ := hS
      go_simp
      exact hK.out _ _ ⟨⟨hS1, hS2, hS3⟩, Below.refl _ _, rfl⟩
    · intro v u hS hd K' hK
      simp only [waited, List.toList_toArray, Region.binds, rel, List.getD_cons_zero, List.getD_cons_succ, true_imp_iff, and_true] at hd
      simp only [rel, List.getD_cons_zero, List.getD_cons_succ, Act.put, List.setIfInBounds_toArray, List.set_cons_zero, List.set_cons_succ] at hK
      try simp only [hd] at hK
      obtain ⟨hS1, hS2, hS3⟩ := hS
      have x0 := hS1.cell 2
      go_simp
      exact hK.out _ _ ⟨⟨hS1, hS2, hS3⟩, Below.refl _ _, rfl⟩
    · intro v u hS hd K' hK
      simp only [waited, List.toList_toArray, Region.binds, rel, List.getD_cons_zero, List.getD_cons_succ, true_imp_iff, and_true] at hd
      simp only [rel, List.getD_cons_zero, List.getD_cons_succ, Act.put, List.setIfInBounds_toArray, List.set_cons_zero, List.set_cons_succ] at hK
      try simp only [hd] at hK
      obtain ⟨hS1, hS2, hS3⟩ := hS
      go_simp
      exact hK.out _ _ ⟨⟨hS1, hS2, hS3⟩, Below.refl _ _, rfl⟩
    · intro v u hS hd K' hK
      simp only [waited, List.toList_toArray, Region.binds, rel, List.getD_cons_zero, List.getD_cons_succ, true_imp_iff, and_true] at hd
      simp only [rel, List.getD_cons_zero, List.getD_cons_succ, Act.put, List.setIfInBounds_toArray, List.set_cons_zero, List.set_cons_succ] at hK
      try simp only [hd] at hK
      obtain ⟨hS1, hS2, hS3⟩ := hS
      have x0 := hS1.cell 3
      go_simp
      exact hK.out _ _ ⟨⟨hS1, hS2, hS3⟩, Below.refl _ _, rfl⟩
    · intro v u hS hd K' hK
      simp only [waited, List.toList_toArray, Region.binds, rel, List.getD_cons_zero, List.getD_cons_succ, true_imp_iff, and_true] at hd
      simp only [rel, List.getD_cons_zero, List.getD_cons_succ, Act.put, List.setIfInBounds_toArray, List.set_cons_zero, List.set_cons_succ] at hK
      try simp only [hd] at hK
      obtain ⟨hS1, hS2, hS3⟩ := hS
      go_simp
      exact hK.out _ _ ⟨⟨hS1, hS2, hS3⟩, Below.refl _ _, rfl⟩
    · intro v u hS hd K' hK
      simp only [waited, List.toList_toArray, Region.binds, rel, List.getD_cons_zero, List.getD_cons_succ, true_imp_iff, and_true] at hd
      simp only [rel, List.getD_cons_zero, List.getD_cons_succ, Act.put, List.setIfInBounds_toArray, List.set_cons_zero, List.set_cons_succ] at hK
      try simp only [hd] at hK
      obtain ⟨hS1, hS2, hS3⟩ := hS
      go_simp
      exact hK.out _ _ ⟨⟨hS1, hS2, hS3⟩, Below.refl _ _, rfl⟩
    · intro v u hS hd K' hK
      simp only [waited, List.toList_toArray, Region.binds, rel, List.getD_cons_zero, List.getD_cons_succ, true_imp_iff, and_true] at hd
      simp only [rel, List.getD_cons_zero, List.getD_cons_succ, Act.put, List.setIfInBounds_toArray, List.set_cons_zero, List.set_cons_succ] at hK
      try simp only [hd] at hK
      obtain ⟨hS1, hS2, hS3⟩ := hS
      have x0 := hS1.cell 3
      go_simp
      exact hK.out _ _ ⟨⟨hS1, hS2, hS3⟩, Below.refl _ _, rfl⟩
    · intro v u hS hd K' hK
      simp only [waited, List.toList_toArray, Region.binds, rel, List.getD_cons_zero, List.getD_cons_succ, true_imp_iff, and_true] at hd
      simp only [rel, List.getD_cons_zero, List.getD_cons_succ, Act.put, List.setIfInBounds_toArray, List.set_cons_zero, List.set_cons_succ] at hK
      try simp only [hd] at hK
      obtain ⟨hS1, hS2, hS3⟩ := hS
      go_simp
      refine (hsum _).mono ?_
      rintro e w2 ⟨rfl, rfl⟩
      exact hK.out _ _ ⟨⟨hS1, hS2, hS3⟩, Below.refl _ _, rfl⟩
    · intro v u hS hd K' hK
      simp only [waited, List.toList_toArray, Region.binds, rel, List.getD_cons_zero, List.getD_cons_succ, true_imp_iff, and_true] at hd
      simp only [rel, List.getD_cons_zero, List.getD_cons_succ, Act.put, List.setIfInBounds_toArray, List.set_cons_zero, List.set_cons_succ] at hK
      try simp only [hd] at hK
      obtain ⟨hS1, hS2, hS3⟩ := hS
      go_simp
      exact hK.out _ _ ⟨⟨hS1, hS2, hS3⟩, Below.refl _ _, rfl⟩
    · intro v u hS hd K' hK
      simp only [waited, List.toList_toArray, Region.binds, rel, List.getD_cons_zero, List.getD_cons_succ, true_imp_iff, and_true] at hd
      simp only [rel, List.getD_cons_zero, List.getD_cons_succ, Act.put, List.setIfInBounds_toArray, List.set_cons_zero, List.set_cons_succ] at hK
      try simp only [hd] at hK
      obtain ⟨hS1, hS2, hS3⟩ := hS
      go_simp
      refine (hhead _).mono ?_
      rintro e w2 ⟨rfl, hb2⟩
      exact hK.out _ _ ⟨⟨hS1.below hb2, bt hS2 hb2, Nat.le_trans hS3 hb2.size⟩, hb2, rfl⟩
    · intro v u hS hd K' hK
      simp only [waited, List.toList_toArray, Region.binds, rel, List.getD_cons_zero, List.getD_cons_succ, true_imp_iff, and_true] at hd
      simp only [rel, List.getD_cons_zero, List.getD_cons_succ, Act.put, List.setIfInBounds_toArray, List.set_cons_zero, List.set_cons_succ] at hK
      try simp only [hd] at hK
      obtain ⟨hS1, hS2, hS3⟩ := hS
      go_simp
      exact hK.out _ _ ⟨⟨hS1.alloc _, hS2.alloc hS2.size _, Nat.le_trans hS3 (below_alloc _ _).size⟩, below_alloc _ _, ⟨_, rfl, hS3, Blk.new _ _ _⟩⟩
    · intro v u hS hd K' hK
      simp only [waited, List.toList_toArray, Region.binds, rel, List.getD_cons_zero, List.getD_cons_succ, true_imp_iff, and_true] at hd
      simp only [rel, List.getD_cons_zero, List.getD_cons_succ, Act.put, List.setIfInBounds_toArray, List.set_cons_zero, List.set_cons_succ] at hK
      try simp only [hd] at hK
      obtain ⟨hS1, hS2, hS3⟩ := hS
      go_simp
      exact hK.out _ _ ⟨⟨hS1.alloc _, hS2.alloc hS2.size _, Nat.le_trans hS3 (below_alloc _ _).size⟩, below_alloc _ _, ⟨_, rfl, hS3, Blk.new _ _ _⟩⟩
  · rintro v u ⟨hS1, hS2, hS3⟩ hR
    simp only [holdAll, List.size_toArray, List.length_cons, List.length_nil, Nat.reduceAdd, rel, List.getD_cons_zero, List.getD_cons_succ] at hR
    simp only [List.toList_toArray, List.drop_succ_cons, List.drop_zero]
    obtain ⟨⟨⟨hR0, h13⟩, gs, h14, hgsW, k14⟩, ga, h15, hle, k15⟩ := hR
    clear hR0 h13
    simp only [h14, h15]
    clear h14 h15
    have hgs0 : w.heap.size ≤ gs := Nat.le_of_lt (Nat.lt_of_lt_of_le K1.lt hgsW)
    have hgsw : gs ≠ w.heap.size := Nat.ne_of_gt (Nat.lt_of_lt_of_le K1.lt hgsW)
    have hne : ga ≠ gs := by
      intro e
      subst e
      have := k14.symm.trans k15
      simp at this
    refine seqOps_cons fun K hK => ?_
    have c15 := k15.cell 0
    have f15 := k15.free 0
    go_simp
    refine hK.out _ _ (seqOps_nil ?_)
    clear hK c15 f15
    have j1 := hS1.far (p := ⟨ga, 0, none⟩) (by show w.heap.size ≠ ga; have := K1.lt; omega) (.slice (some ⟨gs, 0, none⟩) 1 1)
    have j4 := k14.far (p := ⟨ga, 0, none⟩) (Ne.symm hne) (.slice (some ⟨gs, 0, none⟩) 1 1)
    have j5 := k15.set 0 (.slice (some ⟨gs, 0, none⟩) 1 1)
    have hB := ((hS2.mono (Nat.le_refl _)).setCell (p := ⟨ga, 0, none⟩) (by show w.heap.size ≤ ga; have := K1.lt; omega) (.slice (some ⟨gs, 0, none⟩) 1 1))
    clear hS1 hS2 k14 k15
    obtain ⟨W1, HW1⟩ := named (u.setCell ⟨ga, 0, none⟩ (.slice (some ⟨gs, 0, none⟩) 1 1))
    rw [← HW1.out] at j1 j4 j5 hB ⊢
    clear HW1
    have y3 := j1.cell 3
    have hcv := fun w' : World => run_bytes_of_string (P := Try.prog) w' 9 56 5 p Try.underlying9 Try.underlying56 Try.underlying5
    gi_wp2_with fail
    refine ⟨trivial, ?_⟩
    clear hcv y3
    refine (callsIn_wide.2 (chunk_w _ _ _ _)).mono ?_
    rintro e w2 ⟨rfl, hw2⟩
    gi_wp2_with fail
    clear hw2
    have hO := hide (bytesRow_cell W1 p 5 (grownCap W1 p.size 0 5))
    obtain ⟨cp, Hcp⟩ := named (grownCap W1 p.size 0 5)
    have hcp : p.size ≤ cp := by rw [Hcp.out]; exact grownCap_ge _ _ _ _
    rw [← Hcp.out] at hO ⊢
    clear Hcp
    obtain ⟨O1, HO1⟩ := named (Obj.cells (bytesRow p cp) 5 ((bytesRow p cp).size, (bytesRow p cp).size + 1))
    rw [← HO1.out] at hO ⊢
    clear HO1
    have hO' : ∀ (j : Nat) (hj : j < p.size), (W1.alloc O1).cell? ⟨W1.heap.size, j, none⟩ = some (.int .u8 (p[j].toNat : Int)) := hO.out
    clear hO
    have m1 := ((j1.alloc O1).alloc (.cells #[.slice (some ⟨W1.heap.size, 0, none⟩) p.size cp] 56)).alloc (.cells #[.int .i64 61] 3)
    have m4 := ((j4.alloc O1).alloc (.cells #[.slice (some ⟨W1.heap.size, 0, none⟩) p.size cp] 56)).alloc (.cells #[.int .i64 61] 3)
    have m5 := ((j5.alloc O1).alloc (.cells #[.slice (some ⟨W1.heap.size, 0, none⟩) p.size cp] 56)).alloc (.cells #[.int .i64 61] 3)
    have m6 := (Blk.new (W1.alloc O1) [.slice (some ⟨W1.heap.size, 0, none⟩) p.size cp] 56).alloc (.cells #[.int .i64 61] 3)
    have m7 := Blk.new ((W1.alloc O1).alloc (.cells #[.slice (some ⟨W1.heap.size, 0, none⟩) p.size cp] 56)) [.int .i64 61] 3
    have mB := ((hB.alloc hB.size O1).alloc (hB.alloc hB.size O1).size (.cells #[.slice (some ⟨W1.heap.size, 0, none⟩) p.size cp] 56)).alloc ((hB.alloc hB.size O1).alloc (hB.alloc hB.size O1).size (.cells #[.slice (some ⟨W1.heap.size, 0, none⟩) p.size cp] 56)).size (.cells #[.int .i64 61] 3)
    have mO : ∀ (j : Nat) (hj : j < p.size), (((W1.alloc O1).alloc (.cells #[.slice (some ⟨W1.heap.size, 0, none⟩) p.size cp] 56)).alloc (.cells #[.int .i64 61] 3)).cell? ⟨W1.heap.size, j, none⟩ = some (.int .u8 (p[j].toNat : Int)) := fun j hj =>
      (World.cell?_alloc_lt _ _ _ (by simp; omega)).trans ((World.cell?_alloc_lt _ _ _ (by simp)).trans (hO' j hj))
    have mS : (((W1.alloc O1).alloc (.cells #[.slice (some ⟨W1.heap.size, 0, none⟩) p.size cp] 56)).alloc (.cells #[.int .i64 61] 3)).heap.size = W1.heap.size + 3 := by simp
    rw [show (W1.alloc O1).heap.size = W1.heap.size + 1 by simp] at m6
    rw [show ((W1.alloc O1).alloc (.cells #[.slice (some ⟨W1.heap.size, 0, none⟩) p.size cp] 56)).heap.size = W1.heap.size + 1 + 1 by simp] at m7
    have hga := j5.lt
    have hgs := j4.lt
    have hfr := j1.lt
    obtain ⟨W4, HW4⟩ := named (((W1.alloc O1).alloc (.cells #[.slice (some ⟨W1.heap.size, 0, none⟩) p.size cp] 56)).alloc (.cells #[.int .i64 61] 3)).drew
    rw [← HW4.out]
    have q1 : Blk W4 w.heap.size [.int .u8 (kind.toNat : Int), .int .u64 (epoch : Int), .int .u64 (seq : Int), .string p] 61 := by rw [HW4.out]; exact m1
    have q4 : Blk W4 gs [.string H] 9 := by rw [HW4.out]; exact m4
    have q5 : Blk W4 ga [.slice (some ⟨gs, 0, none⟩) 1 1] 22 := by rw [HW4.out]; exact m5
    have q6 : Blk W4 (W1.heap.size + 1) [.slice (some ⟨W1.heap.size, 0, none⟩) p.size cp] 56 := by rw [HW4.out]; exact m6
    have q7 : Blk W4 (W1.heap.size + 1 + 1) [.int .i64 61] 3 := by rw [HW4.out]; exact m7
    have qB : Below w.heap.size w W4 := by rw [HW4.out]; exact mB.drew
    have qO : ∀ (j : Nat) (hj : j < p.size), W4.cell? ⟨W1.heap.size, j, none⟩ = some (.int .u8 (p[j].toNat : Int)) := by rw [HW4.out]; exact mO
    have qS : W4.heap.size = W1.heap.size + 3 := by rw [HW4.out]; exact mS
    clear m1 m4 m5 m6 m7 mB mO mS HW4 hO' j1 j4 j5 hB
    obtain ⟨gb, Hgb⟩ := named W1.heap.size
    have hne' := hne
    have hwle : w.heap.size < ga := Nat.lt_of_lt_of_le K1.lt hle
    have hwgs : w.heap.size ≤ gs := hgs0
    rw [← Hgb.out] at q6 q7 qO qS hga hgs hfr ⊢
    clear Hgb hle hne hS3
    obtain ⟨j0, hj, hy0, hy1, hy2⟩ := info_parts Try.info9
    have hI0 : SecInv w ga gb [.int .u8 (kind.toNat : Int), .int .u64 (epoch : Int), .int .u64 (seq : Int), .string p] p H [] W4 :=
      ⟨⟨gs, 1, ⟨Ne.symm hne', hgsw, by omega, by omega, by omega⟩, q5, ⟨rfl, .inr ⟨gs, 1, _, rfl, hwgs, q4, Nat.le_refl _, by decide, rfl, rfl⟩⟩⟩, q1, qO, qB, by omega⟩
    refine wpIn_rangeFunc_ownH (F := Fence.wide) (n := 5) rfl (by omega) (gf := 74) (lb := #[.pointer (some ⟨gb + 1, 0, none⟩), .pointer (some ⟨gb + 1 + 1, 0, none⟩)]) rfl trivial (enters_of Try.func74 (by kernel_rfl) rfl)
      (chunk_stops 4 (by omega) (gb + 1) (gb + 1 + 1) gb p.size cp (by omega) hcp W4 (by omega) (by omega) (by rw [q6.cell]; rfl) (by rw [q7.cell]; rfl)) Keep2.trans (fun W l o o' hl h hc _ => Keep2.put (a := gb + 1) (b := gb + 1 + 1) (n := W4.heap.size) (by omega) (by omega) W l o o' hl h hc) (Below.refl _ _) (fun _ => rfl)
      (SecInv w ga gb [.int .u8 (kind.toNat : Int), .int .u64 (epoch : Int), .int .u64 (seq : Int), .string p] p H)
      (fun _ _ _ => False)
      (fun pre W W' row hs hg hr => hs.ownG hg (fun r e => ⟨by have := (hr r e).1; omega, (hr r e).2⟩) (by omega))
      (fun _ _ _ _ _ hs _ _ => hs)
      hI0
      (fun x a' _ => a' = { tmps := #[.agg #[.int .u8 (kind.toNat : Int), .int .u64 (epoch : Int), .int .u64 (seq : Int), .string p], .pointer (some ⟨w.heap.size, 0, none⟩), .slice none 0 0, .int .i64 0, .int .i64 0, .pointer (some ⟨ga, 0, none⟩), .slice (some ⟨gb, 61 * x, none⟩) (chN p.size x) (chN p.size x), undef, .agg #[.int .u8 (kind.toNat : Int), .int .u64 (epoch : Int), .int .u64 (seq : Int), .string p], .int .i64 0, .int .i64 0, .bool false, undef, v 0, v 1, v 2, v 3, v 4, v 5, v 6, v 7, v 8, v 9, v 10, v 11, v 12, v 13, .slice (some ⟨gs, 0, none⟩) 1 1, .pointer (some ⟨w.heap.size, 3, none⟩), .string p, .slice (some ⟨gb, 0, none⟩) p.size cp, .func (.func 74) #[] #[.pointer (some ⟨gb + 1, 0, none⟩), .pointer (some ⟨gb + 1 + 1, 0, none⟩)], .slice (some ⟨gb, 61 * x, none⟩) (chN p.size x) (chN p.size x), undef, undef, undef, undef, undef, undef, undef, undef, undef, undef, undef, undef, undef, undef, undef, undef, undef, undef], defers := [] })
      (fun x a' _ X Y row hs hg hr => hs)
      ?assign ?body ?done ?stop
    case assign =>
      rintro l pre x W K hI hK
      have HK := hide hK
      clear hK
      dsimp only [encC]
      gi_wp2
      exact HK.out _ _ (KeepsFrom.refl _ _) (Keep2.refl _ _ _) hI rfl
    case stop =>
      intro D c pre W hD hS hx
      exact hx.elim
    case done =>
      rintro D ys W hD rfl ⟨⟨g0, c0, ⟨f1, f2, f3, f4, f5⟩, i2, i3⟩, i4, i5, i6, i7⟩ hK
      have y2 := i2.cell 0
      have HK := hide hK
      clear hK
      gi_wp2
      refine ⟨by simp, .inl ⟨_, _, rfl, run_takeDeferred HK.out, ?_⟩⟩
      have hown := own_ownG i3 (grownBy_putObj' _ D (.deferred none)) (fun r e => by cases e; exact ⟨_, HK.out, rfl⟩)
      obtain ⟨A, c, hAc, hcap, _, hlies, _⟩ := Lies.of_own hown
      rw [uptoN_length] at hAc hlies hown hcap
      refine ⟨.tuple #[.slice A (piecesN p.size + 1) c, .int .i64 0], ?_, ⟨A, c, rfl, hcap, ?_⟩, i6.trans (belowK_b (w := w) (Nat.le_refl _) _ D _ _ (by omega) HK.out rfl rfl)⟩
      · rw [← hAc]
        simp [results, Try.f25, go_sem, uptoN_length]
      · have e : H :: (uptoN (piecesN p.size)).mapIdx (fun i x => str (pieceMix p.data.toList i x)) = (sectorsL ⟨kind, epoch, seq, p.data.toList⟩).map str := by
          rw [mix_upto, sectorsL, List.map_cons, List.map_map, HH.out, Hsm.out]
          simp only [frHead, hl0.out]
          rfl
        rw [e] at hlies
        unfold Texts
        have hle : ((sectorsL ⟨kind, epoch, seq, p.data.toList⟩).map str).length = piecesN p.size + 1 := by rw [List.length_map, sectorsL_length]; simp only [hl0.out]
        rw [hle]
        exact hlies
    case body =>
      rintro l pre x a' W hl ⟨r, hr⟩ ⟨⟨g0, c0, ⟨f1, f2, f3, f4, f5⟩, i2, i3⟩, i4, i5, i6, i7⟩ rfl hlt
      have hpl : pre.length < 269 := by unfold piecesN at hlt; omega
      have y0 := i2.cell 0
      obtain ⟨a, ha⟩ := named (UInt8.ofNat (pre.length % 256))
      obtain ⟨b, hb⟩ := named (UInt8.ofNat (pre.length / 256))
      have hat : a.toNat = pre.length % 256 := by rw [ha.out]; simp
      have hbt : b.toNat = pre.length / 256 := by rw [hb.out]; simp; omega
      have hw1 : IntKind.u8.wrap (pre.length : Int) = (a.toNat : Int) := by rw [hat]; simp [IntKind.wrap, IntKind.bits, IntKind.signed]
      have hw2 : IntKind.u8.wrap (b.toNat : Int) = (b.toNat : Int) := by have := b.toNat_lt; simp [IntKind.wrap, IntKind.bits, IntKind.signed]; omega
      have hsh : (pre.length : Int) / 256 = (b.toNat : Int) := by rw [hbt]; omega
      have hcv3 : ∀ v u, (∃ g, v = .slice (some ⟨g, 0, none⟩) 3 3 ∧ Blk u g (cellsOf [66, a, b]) 5) → (convert 56 9 v).run Try.prog u = .ok (.string (str [66, a, b])) u := by
        rintro v u ⟨g, rfl, hg⟩
        exact conv_blk (l := [66, a, b]) hg _ _ _ Try.underlying56 Try.underlying5 Try.underlying9 3 rfl
      obtain ⟨T, HT⟩ := named (str [66, a, b])
      rw [← HT.out] at hcv3
      obtain ⟨m, hm⟩ := named (chN p.size x)
      obtain ⟨q, hq⟩ := named (61 * x)
      obtain ⟨X, HX⟩ := named (str ((p.data.toList.drop (61 * x)).take 61))
      have hcvX : ∀ u, Below W.heap.size W u → (convert 56 9 (.slice (some ⟨gb, q, none⟩) m m)).run Try.prog u = .ok (.string X) u := fun u hu => by
        rw [HX.out, hm.out, hq.out]
        exact conv_chunk p gb x u 56 9 5 Try.underlying56 Try.underlying5 Try.underlying9 (fun j hj => (hu.cell (by show gb < _; omega)).trans (i5 j hj))
      rw [← hq.out, ← hm.out]
      obtain ⟨Y, HY⟩ := named (str (pieceMix p.data.toList pre.length x))
      have hsec : ∀ u g, Blk u g [.string T, .string X] 9 → Calls Try.prog 45 #[.slice (some ⟨g, 0, none⟩) 2 2] u fun e w' => e = .returned (.string Y) ∧ Below u.heap.size u w' := fun u g hg => by
        have hz : catL [T, X] = [66, a, b] ++ (p.data.toList.drop (61 * x)).take 61 := by rw [HT.out, HX.out]; simp [catL, str_data]
        have := sector_w (some ⟨g, 0, none⟩) 2 [T, X] u (texts_of_blk hg) (by simp) (by rw [hz]; simp; omega)
        rw [hz, show fillL 64 ([66, a, b] ++ (p.data.toList.drop (61 * x)).take 61) = pieceMix p.data.toList pre.length x by rw [ha.out, hb.out]; rfl, ← HY.out] at this
        exact this
      clear hat hbt ha hb HX hm hq HT
      gi_wp2_with fail
      refine region_tailIn ((easy_round l)) 13 _ (fun u => Below W.heap.size W u) (fun u u' => Below u.heap.size u u')
        (rel [fun v _ => v = .slice (some ⟨g0, 0, none⟩) (pre.length + 1) c0,
          fun v _ => v = .int .i64 (pre.length : Int),
          fun v _ => v = .int .u8 (a.toNat : Int),
          fun v _ => v = .int .i64 (pre.length : Int),
          fun v _ => v = .int .i64 (b.toNat : Int),
          fun v _ => v = .int .u8 (b.toNat : Int),
          fun v u => ∃ g, v = .slice (some ⟨g, 0, none⟩) 3 3 ∧ Blk u g (cellsOf [66, a, b]) 5,
          fun v _ => v = .string T,
          fun v _ => v = .slice (some ⟨gb, q, none⟩) m m,
          fun v _ => v = .string X,
          fun v u => ∃ g, v = .slice (some ⟨g, 0, none⟩) 2 2 ∧ Blk u g [.string T, .string X] 9,
          fun v _ => v = .string Y,
          fun v u => ∃ g, v = .slice (some ⟨g, 0, none⟩) 1 1 ∧ W.heap.size ≤ g ∧ Blk u g [.string Y] 9])
        (by kernel_rfl) (by kernel_rfl) (by kernel_rfl) (by kernel_rfl) (by decide) (fun v => by simp only [putsV, List.take_succ_cons, List.take_zero, Act.put, List.toList_toArray, List.setIfInBounds_toArray, List.set_cons_zero, List.set_cons_succ, Nat.reduceAdd, Nat.zero_add]; rfl) ?_ (Below.refl _ _).drew ?_ ?_
      · intro j x u u' hb h
        match j with
        | 0 => exact h
        | 1 => exact h
        | 2 => exact h
        | 3 => exact h
        | 4 => exact h
        | 5 => exact h
        | 6 => exact (let ⟨g, e, hg⟩ := h; ⟨g, e, hg.below hb⟩)
        | 7 => exact h
        | 8 => exact h
        | 9 => exact h
        | 10 => exact (let ⟨g, e, hg⟩ := h; ⟨g, e, hg.below hb⟩)
        | 11 => exact h
        | 12 => exact (let ⟨g, e, hle, hg⟩ := h; ⟨g, e, hle, hg.below hb⟩)
        | _ + 13 => trivial
      · refine ⟨?_, ?_, ?_, ?_, ?_, ?_, ?_, ?_, ?_, ?_, ?_, ?_, ?_, trivial⟩
        · intro v u hS hd K' hK
          simp only [waited, List.toList_toArray, Region.binds, rel, List.getD_cons_zero, List.getD_cons_succ, true_imp_iff, and_true] at hd
          simp only [rel, List.getD_cons_zero, List.getD_cons_succ, Act.put, List.setIfInBounds_toArray, List.set_cons_zero, List.set_cons_succ] at hK
          try simp only [hd] at hK
          have hS1 := hS
          have x0 := (i2.below hS1).cell 0
          go_simp
          exact hK.out _ _ ⟨hS1, Below.refl _ _, rfl⟩
        · intro v u hS hd K' hK
          simp only [waited, List.toList_toArray, Region.binds, rel, List.getD_cons_zero, List.getD_cons_succ, true_imp_iff, and_true] at hd
          simp only [rel, List.getD_cons_zero, List.getD_cons_succ, Act.put, List.setIfInBounds_toArray, List.set_cons_zero, List.set_cons_succ] at hK
          try simp only [hd] at hK
          have hS1 := hS
          go_simp
          exact hK.out _ _ ⟨hS1, Below.refl _ _, rfl⟩
        · intro v u hS hd K' hK
          simp only [waited, List.toList_toArray, Region.binds, rel, List.getD_cons_zero, List.getD_cons_succ, true_imp_iff, and_true] at hd
          simp only [rel, List.getD_cons_zero, List.getD_cons_succ, Act.put, List.setIfInBounds_toArray, List.set_cons_zero, List.set_cons_succ] at hK
          try simp only [hd] at hK
          have hS1 := hS
          go_simp
          exact hK.out _ _ ⟨hS1, Below.refl _ _, rfl⟩
        · intro v u hS hd K' hK
          simp only [waited, List.toList_toArray, Region.binds, rel, List.getD_cons_zero, List.getD_cons_succ, true_imp_iff, and_true] at hd
          simp only [rel, List.getD_cons_zero, List.getD_cons_succ, Act.put, List.setIfInBounds_toArray, List.set_cons_zero, List.set_cons_succ] at hK
          try simp only [hd] at hK
          have hS1 := hS
          go_simp
          exact hK.out _ _ ⟨hS1, Below.refl _ _, rfl⟩
        · intro v u hS hd K' hK
          simp only [waited, List.toList_toArray, Region.binds, rel, List.getD_cons_zero, List.getD_cons_succ, true_imp_iff, and_true] at hd
          simp only [rel, List.getD_cons_zero, List.getD_cons_succ, Act.put, List.setIfInBounds_toArray, List.set_cons_zero, List.set_cons_succ] at hK
          try simp only [hd] at hK
          have hS1 := hS
          go_simp
          exact hK.out _ _ ⟨hS1, Below.refl _ _, rfl⟩
        · intro v u hS hd K' hK
          simp only [waited, List.toList_toArray, Region.binds, rel, List.getD_cons_zero, List.getD_cons_succ, true_imp_iff, and_true] at hd
          simp only [rel, List.getD_cons_zero, List.getD_cons_succ, Act.put, List.setIfInBounds_toArray, List.set_cons_zero, List.set_cons_succ] at hK
          try simp only [hd] at hK
          have hS1 := hS
          go_simp
          exact hK.out _ _ ⟨hS1, Below.refl _ _, rfl⟩
        · intro v u hS hd K' hK
          simp only [waited, List.toList_toArray, Region.binds, rel, List.getD_cons_zero, List.getD_cons_succ, true_imp_iff, and_true] at hd
          simp only [rel, List.getD_cons_zero, List.getD_cons_succ, Act.put, List.setIfInBounds_toArray, List.set_cons_zero, List.set_cons_succ] at hK
          try simp only [hd] at hK
          have hS1 := hS
          go_simp
          exact hK.out _ _ ⟨hS1.alloc hS1.size _, below_alloc _ _, ⟨_, rfl, Blk.new _ _ _⟩⟩
        · intro v u hS hd K' hK
          simp only [waited, List.toList_toArray, Region.binds, rel, List.getD_cons_zero, List.getD_cons_succ, true_imp_iff, and_true] at hd
          simp only [rel, List.getD_cons_zero, List.getD_cons_succ, Act.put, List.setIfInBounds_toArray, List.set_cons_zero, List.set_cons_succ] at hK
          try simp only [hd] at hK
          have hS1 := hS
          have hx := hcv3 _ _ hd
          go_simp
          exact hK.out _ _ ⟨hS1, Below.refl _ _, rfl⟩
        · intro v u hS hd K' hK
          simp only [waited, List.toList_toArray, Region.binds, rel, List.getD_cons_zero, List.getD_cons_succ, true_imp_iff, and_true] at hd
          simp only [rel, List.getD_cons_zero, List.getD_cons_succ, Act.put, List.setIfInBounds_toArray, List.set_cons_zero, List.set_cons_succ] at hK
          try simp only [hd] at hK
          have hS1 := hS
          go_simp
          exact hK.out _ _ ⟨hS1, Below.refl _ _, rfl⟩
        · intro v u hS hd K' hK
          simp only [waited, List.toList_toArray, Region.binds, rel, List.getD_cons_zero, List.getD_cons_succ, true_imp_iff, and_true] at hd
          simp only [rel, List.getD_cons_zero, List.getD_cons_succ, Act.put, List.setIfInBounds_toArray, List.set_cons_zero, List.set_cons_succ] at hK
          try simp only [hd] at hK
          have hS1 := hS
          have hx := hcvX _ hS1
          go_simp
          exact hK.out _ _ ⟨hS1, Below.refl _ _, rfl⟩
        · intro v u hS hd K' hK
          simp only [waited, List.toList_toArray, Region.binds, rel, List.getD_cons_zero, List.getD_cons_succ, true_imp_iff, and_true] at hd
          simp only [rel, List.getD_cons_zero, List.getD_cons_succ, Act.put, List.setIfInBounds_toArray, List.set_cons_zero, List.set_cons_succ] at hK
          try simp only [hd] at hK
          have hS1 := hS
          go_simp
          exact hK.out _ _ ⟨hS1.alloc hS1.size _, below_alloc _ _, ⟨_, rfl, Blk.new _ _ _⟩⟩
        · intro v u hS hd K' hK
          simp only [waited, List.toList_toArray, Region.binds, rel, List.getD_cons_zero, List.getD_cons_succ, true_imp_iff, and_true] at hd
          simp only [rel, List.getD_cons_zero, List.getD_cons_succ, Act.put, List.setIfInBounds_toArray, List.set_cons_zero, List.set_cons_succ] at hK
          try simp only [hd] at hK
          have hS1 := hS
          obtain ⟨g, e, hg⟩ := hd
          simp only [e] at hK
          go_simp
          refine (hsec _ _ hg).mono ?_
          rintro e2 w2 ⟨rfl, hb2⟩
          exact hK.out _ _ ⟨bt hS1 hb2, hb2, rfl⟩
        · intro v u hS hd K' hK
          simp only [waited, List.toList_toArray, Region.binds, rel, List.getD_cons_zero, List.getD_cons_succ, true_imp_iff, and_true] at hd
          simp only [rel, List.getD_cons_zero, List.getD_cons_succ, Act.put, List.setIfInBounds_toArray, List.set_cons_zero, List.set_cons_succ] at hK
          try simp only [hd] at hK
          have hS1 := hS
          go_simp
          exact hK.out _ _ ⟨hS1.alloc hS1.size _, below_alloc _ _, ⟨_, rfl, hS1.size, Blk.new _ _ _⟩⟩
      · rintro v u hS1 hR
        simp only [holdAll, List.size_toArray, List.length_cons, List.length_nil, Nat.reduceAdd, rel, List.getD_cons_zero, List.getD_cons_succ] at hR
        simp only [List.toList_toArray, List.drop_succ_cons, List.drop_zero]
        obtain ⟨hR0, gn, h12, hgn, k12⟩ := hR
        have v0 := and_first hR0
        simp only [v0, h12]
        clear hR0 v0 h12
        have z5 := i2.below hS1
        have hlt5 := z5.lt
        have hszu := hS1.size
        refine seqOps_cons fun K hK => ?_
        refine step_append_lies _ (by rfl) _ _ _ (by rfl) w.heap.size 9 j0 _ 1 16 Try.underlying22 hj hy0 hy1 hy2 rfl (by omega) (.slice (some ⟨g0, 0, none⟩) (pre.length + 1) c0) (pre.length + 1) _ (by rfl) (own_below i3 hS1)
          ⟨gn, 0, none⟩ 1 1 [.string Y] (by rfl) (by rfl) (World.news_of_block (cs := #[.string Y]) (t := 9) (fr := (0, 0)) k12) (by simp [Value.oneCell'])
          (by omega) (by simp only [maxLen]; omega) (by omega) (by omega) u.heap.size rfl ?_
        intro gg cap w1 hown1 hgrow hat hlt2
        refine hK.out _ _ ?_
        have hat' : g0 = gg ∨ gg = u.heap.size := hat.imp (fun h => by simpa [Value.ownBlock] using h) id
        have far : ∀ k, k < u.heap.size → k ≠ g0 → w1.heap[k]? = u.heap[k]? := fun k hk hne => hgrow.block k hk (by simpa [Value.ownBlock] using hne)
        have z5' : Blk w1 ga [.slice (some ⟨g0, 0, none⟩) (pre.length + 1) c0] 22 := (far ga hlt5 (Ne.symm f1)).trans z5
        have y5 := z5'.cell 0
        have y6 := z5'.free 0
        clear hK
        refine seqOps_cons fun K2 hK2 => ?_
        go_simp
        refine hK2.out _ _ (seqOps_nil ?_)
        clear hK2 y5 y6
        have hgg : gg ≠ ga ∧ gg ≠ w.heap.size ∧ gg ≠ gb ∧ gg ≠ gb + 1 ∧ gg ≠ gb + 2 := by rcases hat' with h | h <;> omega
        gi_wp2
        clear hw1 hw2 hsh hcv3 hcvX hsec
        obtain ⟨cur, hcur, hg0w⟩ := own_cells i3
        have hcu : u.heap[g0]? = some (.cells cur 9 (0, 0)) := (hS1.block g0 (Array.getElem?_eq_some_iff.1 hcur).1).trans hcur
        have w4 := i4.below hS1
        have w4' : Blk w1 w.heap.size _ _ := (far w.heap.size w4.lt (Ne.symm f2)).trans w4
        refine ⟨((keeps_below hS1).trans ((KeepsOthers.of_grownBy hgrow (fun j o e ho => by
          have : g0 = j := by simpa [Value.ownBlock] using e
          subst this
          rw [hcu] at ho
          cases ho
          rfl)).from _)).trans ((KeepsOthers.setCell _ _ _).from _), fun i => ⟨?_, ?_⟩, ⟨gg, cap, hgg, ?_, ?_⟩, ?_, ?_, ?_, ?_⟩
        · exact (World.cell?_setCell_other w1 ⟨ga, 0, none⟩ ⟨gb + 1, i, none⟩ _ (fun e => by have := congrArg Addr.block e; simp at this; omega)).trans ((World.cell?_of_block (far (gb + 1) (by omega) (by omega))).trans (hS1.cell (by show gb + 1 < _; omega)))
        · exact (World.cell?_setCell_other w1 ⟨ga, 0, none⟩ ⟨gb + 1 + 1, i, none⟩ _ (fun e => by have := congrArg Addr.block e; simp at this; omega)).trans ((World.cell?_of_block (far (gb + 1 + 1) (by omega) (by omega))).trans (hS1.cell (by show gb + 1 + 1 < _; omega)))
        · have := z5'.set 0 (.slice (some ⟨gg, 0, none⟩) (pre.length + 1 + 1) cap)
          rw [List.length_append, List.length_singleton]
          exact this
        · have := own_far hown1 (p := ⟨ga, 0, none⟩) (by simp [Value.ownBlock]; exact hgg.1) (.slice (some ⟨gg, 0, none⟩) (pre.length + 1 + 1) cap)
          rw [List.length_append, List.length_singleton, List.mapIdx_concat, ← HY.out]
          have e : strs (H :: (pre.mapIdx (fun i x => str (pieceMix p.data.toList i x)) ++ [Y])) = strs (H :: pre.mapIdx (fun i x => str (pieceMix p.data.toList i x))) ++ [.string Y] := by simp [strs]
          rw [e]
          exact this
        · exact w4'.far (p := ⟨ga, 0, none⟩) (by show w.heap.size ≠ ga; omega) _
        · intro j hj
          exact (World.cell?_setCell_other w1 ⟨ga, 0, none⟩ ⟨gb, j, none⟩ _ (fun e => by have := congrArg Addr.block e; simp at this; omega)).trans ((World.cell?_of_block (far gb (by omega) (by omega))).trans ((hS1.cell (by show gb < _; omega)).trans (i5 j hj)))
        · exact ((bt i6 hS1).grown hgrow (by have := i6.size; omega) (fun k e => by
            have : g0 = k := by simpa [Value.ownBlock] using e
            omega)).setCell (p := ⟨ga, 0, none⟩) (by show w.heap.size ≤ ga; omega) _
        · have := hgrow.size
          show gb + 3 ≤ (World.setCell _ _ _).heap.size
          rw [World.size_setCell]
          omega
set_option maxHeartbeats 4000000 in
set_option maxRecDepth 100000 in
theorem recSectors_no (kind : UInt8) (epoch seq : Nat) (p : ByteArray) (w : World) (hno : frCheck ⟨kind, epoch, seq, p.data.toList⟩ ≠ 0) :
    Calls Try.prog 25 #[.agg #[.int .u8 (kind.toNat : Int), .int .u64 (epoch : Int), .int .u64 (seq : Int), .string p]] w fun e w' =>
      e = .returned (.tuple #[.slice none 0 0, .int .i64 (frCheck ⟨kind, epoch, seq, p.data.toList⟩)]) ∧ Below w.heap.size w w' := by
  have hcheck := recCheck_w kind epoch seq p
  obtain ⟨why, hwhy⟩ := named (frCheck ⟨kind, epoch, seq, p.data.toList⟩)
  rw [← hwhy.out] at hcheck hno ⊢
  have hne : (why != 0) = true := by simp [hno]
  clear hno hwhy
  have b0 := below_alloc w (.cells #[.int .u8 (kind.toNat : Int), .int .u64 (epoch : Int), .int .u64 (seq : Int), .string p] 61)
  go_enter Try.func25, Try.ntmps25
  go_wp2_with fail
  refine (hcheck _).mono ?_
  rintro e W ⟨rfl, hb⟩
  go_wp2
  go_ret2
  exact ⟨rfl, bt b0 hb⟩
end Go.Proofs.Ytpfbmmeipojodaa
