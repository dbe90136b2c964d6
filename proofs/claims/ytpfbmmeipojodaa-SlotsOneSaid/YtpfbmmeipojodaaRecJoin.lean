/- record.Join. -/
import Derived.Test.YtpfbmmeipojodaaRecHead2
import Derived.Lib.OthersKept
import Derived.Lib.FrozenHead
namespace Go.Proofs.Ytpfbmmeipojodaa
set_option linter.unusedSimpArgs false
set_option linter.unusedVariables false
open Go.RowKit Go.Shelf
open Crc
def zeroFrame : Value := .agg #[.int .u8 0, .int .u64 0, .int .u64 0, .string ⟨#[]⟩]
theorem below4' {N : Nat} {w0 w : World} {X : Nat} (h : Below N w0 w) (hX : N ≤ X) (a b c d : Value) : Below N w0 ((((w.setCell ⟨X, 0, none⟩ a).setCell ⟨X, 1, none⟩ b).setCell ⟨X, 2, none⟩ c).setCell ⟨X, 3, none⟩ d) :=
  (((h.setCell (p := ⟨X, 0, none⟩) hX _).setCell (p := ⟨X, 1, none⟩) hX _).setCell (p := ⟨X, 2, none⟩) hX _).setCell (p := ⟨X, 3, none⟩) hX _
theorem ownF_below {w w' : World} {base : Nat} {e : TypeId} {size n : Nat} {v : Value} {xs : List Value} (h : w.ownsRowF base e size v n xs) (hb : Below w.heap.size w w') : w'.ownsRowF base e size v n xs := by
  refine ⟨h.1, ?_⟩
  rcases h.2 with h' | ⟨g, cap, cur, fz, hv, hg, hh, h'⟩
  · exact .inl h'
  · exact .inr ⟨g, cap, cur, fz, hv, hg, (hb.block g (Array.getElem?_eq_some_iff.1 hh).1).trans hh, h'⟩
theorem builderF_below {T e : TypeId} {B b : Nat} {bs : List Value} {W W' : World} (h : Lib.IsBuilderF T e B b bs W) (hb : Below W.heap.size W W') : Lib.IsBuilderF T e B b bs W' := by
  rcases h with ⟨h1, v, h2, h3, h4⟩ | ⟨h1, v, h2, h3, h4⟩
  · exact .inl ⟨h1, v, (hb.block b (Array.getElem?_eq_some_iff.1 h2).1).trans h2, ownF_below h3 hb, h4⟩
  · exact .inr ⟨h1, v, (hb.block b (Array.getElem?_eq_some_iff.1 h2).1).trans h2, ownF_below h3 hb, h4⟩
/-- What a list of sectors says, read as the code reads it. -/
def readFr (s0 : List UInt8) (tl : List (List UInt8)) : Fr := ⟨s0.getD 1 0, atL s0 2 8, atL s0 10 8, (tl.flatMap (List.drop 3)).take (atL s0 18 4)⟩
set_option maxHeartbeats 8000000 in
set_option maxRecDepth 100000 in
theorem join_empty (A : Option Addr) (c : Nat) (w : World) :
    Calls Try.prog 58 #[.slice A 0 c] w fun e w' => e = .returned (.tuple #[zeroFrame, .int .i64 14]) ∧ Below w.heap.size w w' := by
  go_enter Try.func58, Try.ntmps58
  go_wp2
  refine bodyPost_ret (v := .tuple #[.agg #[.int .u8 0, .int .u64 0, .int .u64 0, .string ⟨#[]⟩], .int .i64 14]) (by simp [results, Try.results58, go_sem]) rfl ?_
  exact ⟨rfl, below_alloc _ _⟩
set_option maxHeartbeats 8000000 in
set_option maxRecDepth 100000 in
theorem join_badhead (A : Option Addr) (c : Nat) (s0 : ByteArray) (tl : List ByteArray) (w : World) (ht : Texts w A (s0 :: tl)) (hn : tl.length ≤ 140737488351232) (h : ¬ HeadOk s0.data.toList) :
    Calls Try.prog 58 #[.slice A (tl.length + 1) c] w fun e w' => e = .returned (.tuple #[zeroFrame, .int .i64 14]) ∧ Below w.heap.size w w' := by
  have hK := Blk.new w [.int .u8 0, .int .u64 0, .int .u64 0, .string ⟨#[]⟩] 61
  have hb := below_alloc w (.cells #[.int .u8 0, .int .u64 0, .int .u64 0, .string ⟨#[]⟩] 61)
  have hpos : (0 : Int) < ((tl.length + 1 : Nat) : Int) := by omega
  have hne0 : (((tl.length + 1 : Nat) : Int) == 0) = false := by simp; omega
  have ht0 := Texts.below ht hb
  obtain ⟨ab, ao, rfl, hc0⟩ := Texts.at_ ht0 (k := 0) (by simp)
  have hc1 : (w.alloc (.cells #[.int .u8 0, .int .u64 0, .int .u64 0, .string ⟨#[]⟩] 61)).cell? ⟨ab, ao, none⟩ = some (.string s0) := hc0
  clear hc0
  go_enter Try.func58, Try.ntmps58
  go_wp2_with fail
  refine (recHead_no s0 _ h).mono ?_
  unfold zeroHead
  rintro e w2 ⟨rfl, hb2⟩
  have kk := hK.below hb2
  have bb := bt hb hb2
  clear hK hb hb2 hc1
  have k5 := kk.alloc (.cells #[.int .u8 0, .int .u64 0, .int .u64 0, .int .i64 0, .int .u32 0] 87)
  have b5 := bb.alloc bb.size (.cells #[.int .u8 0, .int .u64 0, .int .u64 0, .int .i64 0, .int .u32 0] 87)
  go_wp2_with fail
  refine (pieces_yes 0 _ (by omega)).mono ?_
  rintro e w3 ⟨rfl, rfl⟩
  have r0 := k5.cell 0
  have r1 := k5.cell 1
  have r2 := k5.cell 2
  have r3 := k5.cell 3
  have z0 := k5.free 0
  have z1 := k5.free 1
  have z2 := k5.free 2
  have z3 := k5.free 3
  go_wp2
  refine bodyPost_ret (v := .tuple #[.agg #[.int .u8 0, .int .u64 0, .int .u64 0, .string ⟨#[]⟩], .int .i64 14]) (by simp [results, Try.results58, go_sem, r0, r1, r2, r3]) rfl ?_
  exact ⟨rfl, below4' b5 (Nat.le_refl _) (.int .u8 0) (.int .u64 0) (.int .u64 0) (.string ⟨#[]⟩)⟩
set_option maxHeartbeats 8000000 in
set_option maxRecDepth 100000 in
theorem join_count (A : Option Addr) (c : Nat) (s0 : ByteArray) (tl : List ByteArray) (w : World) (ht : Texts w A (s0 :: tl)) (hn : tl.length ≤ 140737488351232) (h : HeadOk s0.data.toList) (hcnt : tl.length ≠ piecesN (atL s0.data.toList 18 4)) :
    Calls Try.prog 58 #[.slice A (tl.length + 1) c] w fun e w' => e = .returned (.tuple #[zeroFrame, .int .i64 14]) ∧ Below w.heap.size w w' := by
  have hK := Blk.new w [.int .u8 0, .int .u64 0, .int .u64 0, .string ⟨#[]⟩] 61
  have hb := below_alloc w (.cells #[.int .u8 0, .int .u64 0, .int .u64 0, .string ⟨#[]⟩] 61)
  have hpos : (0 : Int) < ((tl.length + 1 : Nat) : Int) := by omega
  have hne0 : (((tl.length + 1 : Nat) : Int) == 0) = false := by simp; omega
  have ht0 := Texts.below ht hb
  obtain ⟨ab, ao, rfl, hc0⟩ := Texts.at_ ht0 (k := 0) (by simp)
  have hc1 : (w.alloc (.cells #[.int .u8 0, .int .u64 0, .int .u64 0, .string ⟨#[]⟩] 61)).cell? ⟨ab, ao, none⟩ = some (.string s0) := hc0
  clear hc0
  go_enter Try.func58, Try.ntmps58
  go_wp2_with fail
  have hyes := recHead_yes s0
  have hlen0 : atL s0.data.toList 18 4 ≤ 16384 := h.len
  obtain ⟨k1, Hk1⟩ := named (s0.data.toList.getD 1 0)
  obtain ⟨n2, Hn2⟩ := named (atL s0.data.toList 2 8)
  obtain ⟨n10, Hn10⟩ := named (atL s0.data.toList 10 8)
  obtain ⟨n18, Hn18⟩ := named (atL s0.data.toList 18 4)
  obtain ⟨n22, Hn22⟩ := named (atL s0.data.toList 22 4)
  unfold headVal at hyes
  rw [← Hk1.out, ← Hn2.out, ← Hn10.out, ← Hn18.out, ← Hn22.out] at hyes
  rw [← Hn18.out] at hlen0
  refine (hyes _ h).mono ?_
  rintro e w2 ⟨rfl, hb2⟩
  have kk := hK.below hb2
  have bb := bt hb hb2
  have ht2 := Texts.below ht bb
  clear hK hb hb2 hc1 hyes ht0
  have kh := Blk.new w2 [.int .u8 (k1.toNat : Int), .int .u64 (n2 : Int), .int .u64 (n10 : Int), .int .i64 (n18 : Int), .int .u32 (n22 : Int)] 87
  have k5 := kk.alloc (.cells #[.int .u8 (k1.toNat : Int), .int .u64 (n2 : Int), .int .u64 (n10 : Int), .int .i64 (n18 : Int), .int .u32 (n22 : Int)] 87)
  have b5 := bb.alloc bb.size (.cells #[.int .u8 (k1.toNat : Int), .int .u64 (n2 : Int), .int .u64 (n10 : Int), .int .i64 (n18 : Int), .int .u32 (n22 : Int)] 87)
  have hlt5 := kk.lt
  obtain ⟨hB, HhB⟩ := named w2.heap.size
  have hW3 : ∀ W3, W3 = w2.alloc (.cells #[.int .u8 (k1.toNat : Int), .int .u64 (n2 : Int), .int .u64 (n10 : Int), .int .i64 (n18 : Int), .int .u32 (n22 : Int)] 87) → W3.heap.size = hB + 1 := fun W3 e => by rw [e, HhB.out]; simp
  rw [← HhB.out] at kh hlt5
  go_wp2_with fail
  rw [← HhB.out]
  obtain ⟨W3, HW3⟩ := named (w2.alloc (.cells #[.int .u8 (k1.toNat : Int), .int .u64 (n2 : Int), .int .u64 (n10 : Int), .int .i64 (n18 : Int), .int .u32 (n22 : Int)] 87))
  have hz3 := hW3 W3 HW3.out
  rw [← HW3.out] at kh k5 b5 ⊢
  clear HW3 HhB hW3 kk bb ht2
  refine (pieces_yes n18 _ hlen0).mono ?_
  rintro e w3 ⟨rfl, rfl⟩
  obtain ⟨np, Hnp⟩ := named (piecesN n18)
  rw [← Hnp.out]
  have hnp : np ≤ 269 := by rw [Hnp.out]; unfold piecesN; omega
  have hcc : (((tl.length + 1 : Nat) : Int) != (np : Int) + 1) = true := by rw [Hnp.out, Hn18.out]; simp; omega
  clear Hnp Hn18 hcnt
  have r0 := k5.cell 0
  have r1 := k5.cell 1
  have r2 := k5.cell 2
  have r3 := k5.cell 3
  have z0 := k5.free 0
  have z1 := k5.free 1
  have z2 := k5.free 2
  have z3 := k5.free 3
  go_wp2
  refine bodyPost_ret (v := .tuple #[.agg #[.int .u8 0, .int .u64 0, .int .u64 0, .string ⟨#[]⟩], .int .i64 14]) (by simp [results, Try.results58, go_sem, r0, r1, r2, r3]) rfl ?_
  exact ⟨rfl, below4' b5 (Nat.le_refl _) (.int .u8 0) (.int .u64 0) (.int .u64 0) (.string ⟨#[]⟩)⟩
theorem texts_cells {w : World} {b o : Nat} {l : List ByteArray} (h : Texts w (some ⟨b, o, none⟩) l) : ∀ j, j < l.length → w.cell? ⟨b, o + j, none⟩ = some (.string (l.getD j ByteArray.empty)) := fun j hj => by
  obtain ⟨b', o', e, hc⟩ := Texts.at_ h hj
  cases e
  rw [hc, List.getD_eq_getElem?_getD, List.getElem?_eq_getElem hj]
  rfl
def bytesOf (l : List ByteArray) : List UInt8 := l.flatMap fun s => s.data.toList.drop 3
theorem bytesOf_snoc (l : List ByteArray) (s : ByteArray) : bytesOf (l ++ [s]) = bytesOf l ++ s.data.toList.drop 3 := by simp [bytesOf]
theorem bytesOf_len : ∀ (l : List ByteArray), (∀ s ∈ l, s.size = 64) → (bytesOf l).length = 61 * l.length
  | [], _ => rfl
  | s :: l, h => by
    have h1 := bytesOf_len l fun x hx => h x (by simp [hx])
    have h2 : s.data.toList.length = 64 := h s (by simp)
    simp only [bytesOf, List.flatMap_cons, List.length_append, List.length_drop, h2, List.length_cons] at h1 ⊢
    omega
/-- What the sectors are read as. -/
def readT (s0 : ByteArray) (tl : List ByteArray) : Fr := ⟨s0.data.toList.getD 1 0, atL s0.data.toList 2 8, atL s0.data.toList 10 8, (bytesOf tl).take (atL s0.data.toList 18 4)⟩
def JoinFit (s0 : ByteArray) (tl : List ByteArray) : Prop := (∀ s ∈ tl, s.size = 64) ∧ (sectorsL (readT s0 tl)).map str = s0 :: tl
open Classical in
noncomputable def joinV (s0 : ByteArray) (tl : List ByteArray) : Value := if JoinFit s0 tl then frVal (readT s0 tl) else zeroFrame
open Classical in
noncomputable def joinE (s0 : ByteArray) (tl : List ByteArray) : Int := if JoinFit s0 tl then 0 else 14
theorem join_some (s0 : ByteArray) (tl : List ByteArray) (h : JoinFit s0 tl) : joinV s0 tl = frVal (readT s0 tl) ∧ joinE s0 tl = 0 := by
  unfold joinV joinE
  rw [if_pos h, if_pos h]
  exact ⟨rfl, rfl⟩
theorem join_none (s0 : ByteArray) (tl : List ByteArray) (h : (∃ s ∈ tl, s.size ≠ 64) ∨ (sectorsL (readT s0 tl)).map str ≠ s0 :: tl) : joinV s0 tl = zeroFrame ∧ joinE s0 tl = 14 := by
  have hn : ¬ JoinFit s0 tl := by
    rintro ⟨h1, h2⟩
    rcases h with ⟨s, hs, hne⟩ | h
    · exact hne (h1 s hs)
    · exact h h2
  unfold joinV joinE
  rw [if_neg hn, if_neg hn]
  exact ⟨rfl, rfl⟩
set_option maxHeartbeats 8000000 in
set_option maxRecDepth 100000 in
theorem join_w (A : Option Addr) (c : Nat) (s0 : ByteArray) (tl : List ByteArray) (w : World) (hcap : tl.length + 1 ≤ c) (ht : Texts w A (s0 :: tl)) (hn : tl.length ≤ 140737488351232) (h : HeadOk s0.data.toList) (hcnt : tl.length = piecesN (atL s0.data.toList 18 4)) :
    Calls Try.prog 58 #[.slice A (tl.length + 1) c] w fun e w' => e = .returned (.tuple #[joinV s0 tl, .int .i64 (joinE s0 tl)]) ∧ Below w.heap.size w w' := by
  have Hcnt := hide hcnt
  clear hcnt
  have hK := Blk.new w [.int .u8 0, .int .u64 0, .int .u64 0, .string ⟨#[]⟩] 61
  have hb := below_alloc w (.cells #[.int .u8 0, .int .u64 0, .int .u64 0, .string ⟨#[]⟩] 61)
  have hpos : (0 : Int) < ((tl.length + 1 : Nat) : Int) := by omega
  have hne0 : (((tl.length + 1 : Nat) : Int) == 0) = false := by simp; omega
  have ht0 := Texts.below ht hb
  obtain ⟨ab, ao, rfl, hc0⟩ := Texts.at_ ht0 (k := 0) (by simp)
  have hc1 : (w.alloc (.cells #[.int .u8 0, .int .u64 0, .int .u64 0, .string ⟨#[]⟩] 61)).cell? ⟨ab, ao, none⟩ = some (.string s0) := hc0
  clear hc0
  go_enter Try.func58, Try.ntmps58
  go_wp2_with fail
  have hyes := recHead_yes s0
  have hlen0 : atL s0.data.toList 18 4 ≤ 16384 := h.len
  obtain ⟨k1, Hk1⟩ := named (s0.data.toList.getD 1 0)
  obtain ⟨n2, Hn2⟩ := named (atL s0.data.toList 2 8)
  obtain ⟨n10, Hn10⟩ := named (atL s0.data.toList 10 8)
  obtain ⟨n18, Hn18⟩ := named (atL s0.data.toList 18 4)
  obtain ⟨n22, Hn22⟩ := named (atL s0.data.toList 22 4)
  unfold headVal at hyes
  rw [← Hk1.out, ← Hn2.out, ← Hn10.out, ← Hn18.out, ← Hn22.out] at hyes
  rw [← Hn18.out] at hlen0
  refine (hyes _ h).mono ?_
  rintro e w2 ⟨rfl, hb2⟩
  have kk := hK.below hb2
  have bb := bt hb hb2
  have ht2 := Texts.below ht bb
  clear hK hb hb2 hc1 hyes ht0
  have kh := Blk.new w2 [.int .u8 (k1.toNat : Int), .int .u64 (n2 : Int), .int .u64 (n10 : Int), .int .i64 (n18 : Int), .int .u32 (n22 : Int)] 87
  have k5 := kk.alloc (.cells #[.int .u8 (k1.toNat : Int), .int .u64 (n2 : Int), .int .u64 (n10 : Int), .int .i64 (n18 : Int), .int .u32 (n22 : Int)] 87)
  have b5 := bb.alloc bb.size (.cells #[.int .u8 (k1.toNat : Int), .int .u64 (n2 : Int), .int .u64 (n10 : Int), .int .i64 (n18 : Int), .int .u32 (n22 : Int)] 87)
  have hlt5 := kk.lt
  obtain ⟨hB, HhB⟩ := named w2.heap.size
  have hW3 : ∀ W3, W3 = w2.alloc (.cells #[.int .u8 (k1.toNat : Int), .int .u64 (n2 : Int), .int .u64 (n10 : Int), .int .i64 (n18 : Int), .int .u32 (n22 : Int)] 87) → W3.heap.size = hB + 1 := fun W3 e => by rw [e, HhB.out]; simp
  rw [← HhB.out] at kh hlt5
  go_wp2_with fail
  rw [← HhB.out]
  obtain ⟨W3, HW3⟩ := named (w2.alloc (.cells #[.int .u8 (k1.toNat : Int), .int .u64 (n2 : Int), .int .u64 (n10 : Int), .int .i64 (n18 : Int), .int .u32 (n22 : Int)] 87))
  have hz3 := hW3 W3 HW3.out
  rw [← HW3.out] at kh k5 b5 ⊢
  clear HW3 HhB hW3 kk bb ht2
  refine (pieces_yes n18 _ hlen0).mono ?_
  rintro e w3 ⟨rfl, rfl⟩
  obtain ⟨np, Hnp⟩ := named (piecesN n18)
  rw [← Hnp.out]
  have hnp : np ≤ 269 := by rw [Hnp.out]; unfold piecesN; omega
  have hcc : (((tl.length + 1 : Nat) : Int) != (np : Int) + 1) = false := by rw [Hnp.out, Hn18.out, ← Hcnt.out]; simp
  have hab : ab < w.heap.size := by
    obtain ⟨b', o', e, hc⟩ := Texts.at_ ht (k := 0) (by simp)
    cases e
    exact World.block_lt_of_cell? w _ hc
  have Hk : Hid (k1 ≠ 0) := by show _ ≠ _; rw [Hk1.out]; exact h.kind
  have htlnp : tl.length = np := by rw [Hnp.out, Hn18.out]; exact Hcnt.out
  have htl9 : tl.length ≤ 269 := by omega
  have Htl := hide htlnp
  clear htlnp
  have hB0 := new_builder W3
  have hT0 := Texts.below ht (bt b5 (below_alloc W3 (.cells #[.pointer none, .slice none 0 0] 124)))
  have ku1 := kh.alloc (.cells #[.pointer none, .slice none 0 0] 124)
  have ku2 := k5.alloc (.cells #[.pointer none, .slice none 0 0] 124)
  have ku3 := b5.alloc b5.size (.cells #[.pointer none, .slice none 0 0] 124)
  have ku5 : (W3.alloc (.cells #[.pointer none, .slice none 0 0] 124)).heap.size = hB + 2 := by simp; omega
  rw [hz3] at hB0
  have hno := join_none s0 tl
  go_wp2_with fail
  · obtain ⟨W4, HW4⟩ := named (W3.alloc (.cells #[.pointer none, .slice none 0 0] 124))
    rw [← HW4.out] at hB0 hT0 ku1 ku2 ku3 ku5 ⊢
    clear HW4
    go_loopw [44] (fun i wr => ∃ k : Nat, k ≤ tl.length ∧ i = .int .i64 k ∧ (∀ s ∈ tl.take k, s.size = 64) ∧ Lib.IsBuilder 124 5 (hB + 1) (hB + 1) (Lib.byteCells (bytesOf (tl.take k))) wr ∧ Below (hB + 1) W4 wr) (fun i _ => tl.length - (intOf i).toNat)
    case atStart => exact ⟨0, by omega, rfl, by simp, hB0, Below.refl _ _⟩
    case round =>
      obtain ⟨k, hk, rfl, hsz, hBd, hb⟩ := hrel
      have t1 : Blk wr hB _ _ := (hb.block hB (by omega)).trans ku1
      have t2 : Blk wr w.heap.size _ _ := (hb.block w.heap.size (by omega)).trans ku2
      have t3 : Below w.heap.size w wr := ku3.trans (hb.mono (by omega))
      have t5 : hB + 2 ≤ wr.heap.size := by have := hb.size; omega
      by_cases hlt : k < tl.length
      · exfalso
        omega
      · obtain rfl : k = tl.length := by omega
        rw [List.take_length] at hBd hsz
        have hbl : (bytesOf tl).length = 61 * tl.length := bytesOf_len _ hsz
        have t4 := Lib.IsBuilderF.of hBd
        obtain ⟨P, HP⟩ := named (bytesOf tl)
        rw [← HP.out] at t4 hbl
        obtain ⟨PS, HPS⟩ := named (str P)
        have hPSz : n18 ≤ PS.size := by rw [HPS.out, str_size, hbl, Htl.out, Hnp.out]; unfold piecesN; omega
        have hPi : (n18 : Int) ≤ (PS.size : Int) := by omega
        have hP0 : (0 : Int) ≤ (n18 : Int) := by omega
        have hex : PS.extract 0 n18 = str (P.take n18) := by rw [HPS.out, str_extract]; rfl
        obtain ⟨X, HX⟩ := named (str (P.take n18))
        rw [← HX.out] at hex
        have HXs : Hid (X.size = n18) := by
          show _ = _
          rw [HX.out, str_size, List.length_take]
          have : PS.size = P.length := by rw [HPS.out, str_size]
          omega
        have hXd : X.data.toList = P.take n18 := by rw [HX.out, str_data]
        have hread : (⟨k1, n2, n10, X.data.toList⟩ : Fr) = readT s0 tl := by
          rw [hXd, HP.out, readT, Hk1.out, Hn2.out, Hn10.out, Hn18.out]
        have hres_yes : (sectorsL ⟨k1, n2, n10, X.data.toList⟩).map str = s0 :: tl → joinV s0 tl = .agg #[.int .u8 (k1.toNat : Int), .int .u64 (n2 : Int), .int .u64 (n10 : Int), .string X] ∧ joinE s0 tl = 0 := fun hf => by
          have := join_some s0 tl ⟨hsz, by rw [← hread]; exact hf⟩
          rw [this.1, this.2, ← hread]
          exact ⟨by rw [frVal, str_of], rfl⟩
        have hres_no : ¬ (sectorsL ⟨k1, n2, n10, X.data.toList⟩).map str = s0 :: tl → joinV s0 tl = zeroFrame ∧ joinE s0 tl = 14 := fun hf => hno (.inr (by rw [← hread]; exact hf))
        clear hread hXd HX HP hbl hno hsz hBd hPSz
        have hn16 : X.size ≤ 16384 := by have := HXs.out; omega
        go_wp2_with fail
        refine region_tail 12 _ (fun u => Blk u hB [.int .u8 (k1.toNat : Int), .int .u64 (n2 : Int), .int .u64 (n10 : Int), .int .i64 (n18 : Int), .int .u32 (n22 : Int)] 87 ∧ Blk u w.heap.size [.int .u8 0, .int .u64 0, .int .u64 0, .string ⟨#[]⟩] 61 ∧ Below w.heap.size w u ∧ Lib.IsBuilderF 124 5 (hB + 1) (hB + 1) (Lib.byteCells P) u ∧ hB + 2 ≤ u.heap.size) (fun u u' => Below (hB + 1) u u' ∧ Lib.OthersKept 5 (some (hB + 1)) u u')
          (rel [fun v _ => v = .pointer (some ⟨hB, 0, none⟩),
            fun v _ => v = .int .u8 (k1.toNat : Int),
            fun v _ => v = .pointer (some ⟨hB, 1, none⟩),
            fun v _ => v = .int .u64 (n2 : Int),
            fun v _ => v = .pointer (some ⟨hB, 2, none⟩),
            fun v _ => v = .int .u64 (n10 : Int),
            fun v _ => v = .string PS,
            fun v _ => v = .pointer (some ⟨hB, 3, none⟩),
            fun v _ => v = .int .i64 (n18 : Int),
            fun v _ => v = .string X,
            fun v _ => v = .agg #[.int .u8 (k1.toNat : Int), .int .u64 (n2 : Int), .int .u64 (n10 : Int), .string X],
            fun v u => ∃ g, v = .pointer (some ⟨g, 0, none⟩) ∧ hB + 2 ≤ g ∧ Blk u g [.int .u8 0, .int .u64 0, .int .u64 0, .string ⟨#[]⟩] 61])
          (by kernel_rfl) (by kernel_rfl) (by kernel_rfl) (by decide) (fun v => by simp only [putsV, List.take_succ_cons, List.take_zero, Act.put, List.toList_toArray, List.setIfInBounds_toArray, List.set_cons_zero, List.set_cons_succ, Nat.reduceAdd, Nat.zero_add]; rfl) ?_ ⟨t1, t2, t3.drew, t4, t5⟩ ?_ ?_
        · intro j x u u' hb h
          match j with
          | 0 => exact h
          | 1 => exact h
          | 2 => exact h
          | 3 => exact h
          | 4 => exact h
          | 5 => exact h
          | 6 => exact h
          | 7 => exact h
          | 8 => exact h
          | 9 => exact h
          | 10 => exact h
          | 11 => exact (let ⟨g, e, hle, hg⟩ := h; ⟨g, e, hle, hb.2 g _ hg (by intro e'; injection e' with e'; omega) (by rintro c fz e'; cases e')⟩)
          | _ + 12 => trivial
        · refine ⟨?_, ?_, ?_, ?_, ?_, ?_, ?_, ?_, ?_, ?_, ?_, ?_, trivial⟩
          · intro v u hS hd K' hK
            simp only [waited, List.toList_toArray, Region.binds, rel, List.getD_cons_zero, List.getD_cons_succ, true_imp_iff, and_true] at hd
            simp only [rel, List.getD_cons_zero, List.getD_cons_succ, Act.put, List.setIfInBounds_toArray, List.set_cons_zero, List.set_cons_succ] at hK
            try simp only [hd] at hK
            obtain ⟨hS1, hS2, hS3, hS4, hS5⟩ := hS
            go_simp
            exact hK.out _ _ ⟨⟨hS1, hS2, hS3, hS4, hS5⟩, ⟨Below.refl _ _, Lib.OthersKept.refl _ _ _⟩, rfl⟩
          · intro v u hS hd K' hK
            simp only [waited, List.toList_toArray, Region.binds, rel, List.getD_cons_zero, List.getD_cons_succ, true_imp_iff, and_true] at hd
            simp only [rel, List.getD_cons_zero, List.getD_cons_succ, Act.put, List.setIfInBounds_toArray, List.set_cons_zero, List.set_cons_succ] at hK
            try simp only [hd] at hK
            obtain ⟨hS1, hS2, hS3, hS4, hS5⟩ := hS
            have x0 := hS1.cell 0
            go_simp
            exact hK.out _ _ ⟨⟨hS1, hS2, hS3, hS4, hS5⟩, ⟨Below.refl _ _, Lib.OthersKept.refl _ _ _⟩, rfl⟩
          · intro v u hS hd K' hK
            simp only [waited, List.toList_toArray, Region.binds, rel, List.getD_cons_zero, List.getD_cons_succ, true_imp_iff, and_true] at hd
            simp only [rel, List.getD_cons_zero, List.getD_cons_succ, Act.put, List.setIfInBounds_toArray, List.set_cons_zero, List.set_cons_succ] at hK
            try simp only [hd] at hK
            obtain ⟨hS1, hS2, hS3, hS4, hS5⟩ := hS
            go_simp
            exact hK.out _ _ ⟨⟨hS1, hS2, hS3, hS4, hS5⟩, ⟨Below.refl _ _, Lib.OthersKept.refl _ _ _⟩, rfl⟩
          · intro v u hS hd K' hK
            simp only [waited, List.toList_toArray, Region.binds, rel, List.getD_cons_zero, List.getD_cons_succ, true_imp_iff, and_true] at hd
            simp only [rel, List.getD_cons_zero, List.getD_cons_succ, Act.put, List.setIfInBounds_toArray, List.set_cons_zero, List.set_cons_succ] at hK
            try simp only [hd] at hK
            obtain ⟨hS1, hS2, hS3, hS4, hS5⟩ := hS
            have x0 := hS1.cell 1
            go_simp
            exact hK.out _ _ ⟨⟨hS1, hS2, hS3, hS4, hS5⟩, ⟨Below.refl _ _, Lib.OthersKept.refl _ _ _⟩, rfl⟩
          · intro v u hS hd K' hK
            simp only [waited, List.toList_toArray, Region.binds, rel, List.getD_cons_zero, List.getD_cons_succ, true_imp_iff, and_true] at hd
            simp only [rel, List.getD_cons_zero, List.getD_cons_succ, Act.put, List.setIfInBounds_toArray, List.set_cons_zero, List.set_cons_succ] at hK
            try simp only [hd] at hK
            obtain ⟨hS1, hS2, hS3, hS4, hS5⟩ := hS
            go_simp
            exact hK.out _ _ ⟨⟨hS1, hS2, hS3, hS4, hS5⟩, ⟨Below.refl _ _, Lib.OthersKept.refl _ _ _⟩, rfl⟩
          · intro v u hS hd K' hK
            simp only [waited, List.toList_toArray, Region.binds, rel, List.getD_cons_zero, List.getD_cons_succ, true_imp_iff, and_true] at hd
            simp only [rel, List.getD_cons_zero, List.getD_cons_succ, Act.put, List.setIfInBounds_toArray, List.set_cons_zero, List.set_cons_succ] at hK
            try simp only [hd] at hK
            obtain ⟨hS1, hS2, hS3, hS4, hS5⟩ := hS
            have x0 := hS1.cell 2
            go_simp
            exact hK.out _ _ ⟨⟨hS1, hS2, hS3, hS4, hS5⟩, ⟨Below.refl _ _, Lib.OthersKept.refl _ _ _⟩, rfl⟩
          · intro v u hS hd K' hK
            simp only [waited, List.toList_toArray, Region.binds, rel, List.getD_cons_zero, List.getD_cons_succ, true_imp_iff, and_true] at hd
            simp only [rel, List.getD_cons_zero, List.getD_cons_succ, Act.put, List.setIfInBounds_toArray, List.set_cons_zero, List.set_cons_succ] at hK
            try simp only [hd] at hK
            obtain ⟨hS1, hS2, hS3, hS4, hS5⟩ := hS
            go_simp
            refine (Try.Builder_String_any_k (hB + 1) (hB + 1) P _ hS4 (by omega)).mono ?_
            rintro e w2 ⟨rfl, h1, h2, h3⟩
            exact hK.out _ _ ⟨⟨(h2.block hB (by omega)).trans hS1, (h2.block w.heap.size (by omega)).trans hS2, hS3.trans (h2.mono (by omega)), h1, Nat.le_trans hS5 h2.size⟩, ⟨h2, h3⟩, by rw [HPS.out]; rfl⟩
          · intro v u hS hd K' hK
            simp only [waited, List.toList_toArray, Region.binds, rel, List.getD_cons_zero, List.getD_cons_succ, true_imp_iff, and_true] at hd
            simp only [rel, List.getD_cons_zero, List.getD_cons_succ, Act.put, List.setIfInBounds_toArray, List.set_cons_zero, List.set_cons_succ] at hK
            try simp only [hd] at hK
            obtain ⟨hS1, hS2, hS3, hS4, hS5⟩ := hS
            go_simp
            exact hK.out _ _ ⟨⟨hS1, hS2, hS3, hS4, hS5⟩, ⟨Below.refl _ _, Lib.OthersKept.refl _ _ _⟩, rfl⟩
          · intro v u hS hd K' hK
            simp only [waited, List.toList_toArray, Region.binds, rel, List.getD_cons_zero, List.getD_cons_succ, true_imp_iff, and_true] at hd
            simp only [rel, List.getD_cons_zero, List.getD_cons_succ, Act.put, List.setIfInBounds_toArray, List.set_cons_zero, List.set_cons_succ] at hK
            try simp only [hd] at hK
            obtain ⟨hS1, hS2, hS3, hS4, hS5⟩ := hS
            have x0 := hS1.cell 3
            go_simp
            exact hK.out _ _ ⟨⟨hS1, hS2, hS3, hS4, hS5⟩, ⟨Below.refl _ _, Lib.OthersKept.refl _ _ _⟩, rfl⟩
          · intro v u hS hd K' hK
            simp only [waited, List.toList_toArray, Region.binds, rel, List.getD_cons_zero, List.getD_cons_succ, true_imp_iff, and_true] at hd
            simp only [rel, List.getD_cons_zero, List.getD_cons_succ, Act.put, List.setIfInBounds_toArray, List.set_cons_zero, List.set_cons_succ] at hK
            try simp only [hd] at hK
            obtain ⟨hS1, hS2, hS3, hS4, hS5⟩ := hS
            go_simp
            exact hK.out _ _ ⟨⟨hS1, hS2, hS3, hS4, hS5⟩, ⟨Below.refl _ _, Lib.OthersKept.refl _ _ _⟩, rfl⟩
          · intro v u hS hd K' hK
            simp only [waited, List.toList_toArray, Region.binds, rel, List.getD_cons_zero, List.getD_cons_succ, true_imp_iff, and_true] at hd
            simp only [rel, List.getD_cons_zero, List.getD_cons_succ, Act.put, List.setIfInBounds_toArray, List.set_cons_zero, List.set_cons_succ] at hK
            try simp only [hd] at hK
            obtain ⟨hS1, hS2, hS3, hS4, hS5⟩ := hS
            go_simp
            exact hK.out _ _ ⟨⟨hS1, hS2, hS3, hS4, hS5⟩, ⟨Below.refl _ _, Lib.OthersKept.refl _ _ _⟩, rfl⟩
          · intro v u hS hd K' hK
            simp only [waited, List.toList_toArray, Region.binds, rel, List.getD_cons_zero, List.getD_cons_succ, true_imp_iff, and_true] at hd
            simp only [rel, List.getD_cons_zero, List.getD_cons_succ, Act.put, List.setIfInBounds_toArray, List.set_cons_zero, List.set_cons_succ] at hK
            try simp only [hd] at hK
            obtain ⟨hS1, hS2, hS3, hS4, hS5⟩ := hS
            go_simp
            exact hK.out _ _ ⟨⟨hS1.alloc _, hS2.alloc _, hS3.alloc hS3.size _, Lib.IsBuilderF.alloc hS4 _, Nat.le_trans hS5 (below_alloc _ _).size⟩, ⟨(Below.refl _ _).alloc (by omega) _, (Lib.OthersKept.refl _ _ _).alloc _⟩, ⟨_, rfl, hS5, Blk.new _ _ _⟩⟩
        · rintro v u ⟨hS1, hS2, hS3, hS4, hS5⟩ hR
          simp only [holdAll, List.size_toArray, List.length_cons, List.length_nil, Nat.reduceAdd, rel, List.getD_cons_zero, List.getD_cons_succ] at hR
          simp only [List.toList_toArray, List.drop_succ_cons, List.drop_zero]
          obtain ⟨hR0, gf, h11, hgf, k11⟩ := hR
          have v10 := hR0.2
          simp only [v10, h11]
          clear hR0 v10 h11
          have y := k11.cell
          have z := k11.free
          refine seqOps_cons fun K hK => ?_
          go_simp
          refine hK.out _ _ (seqOps_nil ?_)
          clear hK y z
          have q1 : Blk _ gf [.int .u8 (k1.toNat : Int), .int .u64 (n2 : Int), .int .u64 (n10 : Int), .string X] 61 := (((k11.set 0 (.int .u8 (k1.toNat : Int))).set 1 (.int .u64 (n2 : Int))).set 2 (.int .u64 (n10 : Int))).set 3 (.string X)
          have q2 := ((((hS2.far (p := ⟨gf, 0, none⟩) (by show w.heap.size ≠ gf; omega) (.int .u8 (k1.toNat : Int))).far (p := ⟨gf, 1, none⟩) (by show w.heap.size ≠ gf; omega) (.int .u64 (n2 : Int))).far (p := ⟨gf, 2, none⟩) (by show w.heap.size ≠ gf; omega) (.int .u64 (n10 : Int))).far (p := ⟨gf, 3, none⟩) (by show w.heap.size ≠ gf; omega) (.string X))
          have q3 := below4' hS3 (X := gf) (by omega) (.int .u8 (k1.toNat : Int)) (.int .u64 (n2 : Int)) (.int .u64 (n10 : Int)) (.string X)
          obtain ⟨W6, HW6⟩ := named ((((u.setCell ⟨gf, 0, none⟩ (.int .u8 (k1.toNat : Int))).setCell ⟨gf, 1, none⟩ (.int .u64 (n2 : Int))).setCell ⟨gf, 2, none⟩ (.int .u64 (n10 : Int))).setCell ⟨gf, 3, none⟩ (.string X))
          rw [← HW6.out] at q1 q2 q3 ⊢
          clear HW6 hS1 hS2 hS3 hS4 hS5 k11
          have y := q1.cell
          go_wp2_with fail
          refine (recSectors_yes k1 n2 n10 X _ Hk.out (by omega)).mono ?_
          rintro e w7 ⟨⟨A7, c7, rfl, hc7, ht7⟩, hb7⟩
          have p1 := q1.below hb7
          have p2 := q2.below hb7
          have p3 := bt q3 hb7
          clear y q1 q2 q3
          have hne7 : ((sectorsL ⟨k1, n2, n10, X.data.toList⟩).map str).length = tl.length + 1 := by rw [List.length_map, sectorsL_length]; show piecesN X.data.toList.length + 1 = _; rw [show X.data.toList.length = n18 from HXs.out, ← Hnp.out, Htl.out]
          obtain ⟨b7, o7, rfl, _⟩ := Texts.at_ ht7 (k := 0) (by omega)
          obtain ⟨LL, HLL⟩ := named ((sectorsL ⟨k1, n2, n10, X.data.toList⟩).map str)
          rw [← HLL.out] at ht7 hne7
          rw [show piecesN X.size = tl.length by rw [show X.size = n18 from HXs.out, ← Hnp.out]; exact Htl.out.symm]
          have hts : Texts w7 (some ⟨ab, ao, none⟩) (s0 :: tl) := Texts.below ht p3
          go_wp2_with fail
          refine (Try.slices_Equal_string b7 o7 (tl.length + 1) c7 ab ao (tl.length + 1) _ LL (s0 :: tl) _ (by omega) (by simp) (by omega) (by omega) (texts_cells ht7) (texts_cells hts)).mono ?_
          rw [List.take_of_length_le (by omega), List.take_of_length_le (by simp)]
          rintro e w8 ⟨rfl, qn, rfl⟩
          have m1 : Blk (w7.drewN qn) gf _ _ := p1
          have m2 : Blk (w7.drewN qn) w.heap.size _ _ := p2
          have m3 : Below w.heap.size w (w7.drewN qn) := below_drewN p3 qn
          clear p1 p2 p3 hts ht7
          by_cases hfit : LL = s0 :: tl
          · have hdec := decide_eq_true hfit
            have Hres := hres_yes (by rw [← HLL.out]; exact hfit)
            rw [hdec]
            clear hdec hfit
            have r0 := m2.cell 0
            have r1 := m2.cell 1
            have r2 := m2.cell 2
            have r3 := m2.cell 3
            have z0 := m2.free 0
            have z1 := m2.free 1
            have z2 := m2.free 2
            have z3 := m2.free 3
            have y := m1.cell
            go_wp2
            refine bodyPost_ret (v := .tuple #[.agg #[.int .u8 (k1.toNat : Int), .int .u64 (n2 : Int), .int .u64 (n10 : Int), .string X], .int .i64 0]) (by simp [results, Try.results58, go_sem, r0, r1, r2, r3]) rfl ?_
            exact ⟨by rw [Hres.1, Hres.2], below4' m3 (Nat.le_refl _) _ _ _ _⟩
          · have hdec := decide_eq_false hfit
            have Hres := hres_no (by rw [← HLL.out]; exact hfit)
            rw [hdec]
            clear hdec hfit
            have r0 := m2.cell 0
            have r1 := m2.cell 1
            have r2 := m2.cell 2
            have r3 := m2.cell 3
            have z0 := m2.free 0
            have z1 := m2.free 1
            have z2 := m2.free 2
            have z3 := m2.free 3
            go_wp2
            refine bodyPost_ret (v := .tuple #[.agg #[.int .u8 0, .int .u64 0, .int .u64 0, .string ⟨#[]⟩], .int .i64 14]) (by simp [results, Try.results58, go_sem, r0, r1, r2, r3]) rfl ?_
            exact ⟨by rw [Hres.1, Hres.2]; rfl, below4' m3 (Nat.le_refl _) (.int .u8 0) (.int .u64 0) (.int .u64 0) (.string ⟨#[]⟩)⟩
  · obtain ⟨W4, HW4⟩ := named (W3.alloc (.cells #[.pointer none, .slice none 0 0] 124))
    rw [← HW4.out] at hB0 hT0 ku1 ku2 ku3 ku5 ⊢
    clear HW4
    go_loopw [44] (fun i wr => ∃ k : Nat, k ≤ tl.length ∧ i = .int .i64 k ∧ (∀ s ∈ tl.take k, s.size = 64) ∧ Lib.IsBuilder 124 5 (hB + 1) (hB + 1) (Lib.byteCells (bytesOf (tl.take k))) wr ∧ Below (hB + 1) W4 wr) (fun i _ => tl.length - (intOf i).toNat)
    case atStart => exact ⟨0, by omega, rfl, by simp, hB0, Below.refl _ _⟩
    case round =>
      obtain ⟨k, hk, rfl, hsz, hBd, hb⟩ := hrel
      have t1 : Blk wr hB _ _ := (hb.block hB (by omega)).trans ku1
      have t2 : Blk wr w.heap.size _ _ := (hb.block w.heap.size (by omega)).trans ku2
      have t3 : Below w.heap.size w wr := ku3.trans (hb.mono (by omega))
      have t5 : hB + 2 ≤ wr.heap.size := by have := hb.size; omega
      by_cases hlt : k < tl.length
      · obtain ⟨b', o', e', hcx⟩ := Texts.at_ hT0 (k := k + 1) (by simp; omega)
        cases e'
        rw [List.getElem_cons_succ] at hcx
        have hcell : wr.cell? ⟨ab, ao + 1 + k, none⟩ = some (.string tl[k]) := by
          rw [show ao + 1 + k = ao + (k + 1) by omega]
          exact (hb.cell (p := ⟨ab, ao + (k + 1), none⟩) (by show ab < hB + 1; omega)).trans hcx
        clear hcx
        have hmem : tl[k] ∈ tl := List.getElem_mem hlt
        obtain ⟨x, Hx⟩ := named tl[k]
        rw [← Hx.out] at hcell
        by_cases hs : x.size = 64
        · have hs1 : ((x.size : Int) != 64) = false := by rw [hs]; rfl
          have hs3 : (3 : Int) ≤ (x.size : Int) := by omega
          have hex : x.extract 3 x.size = str (x.data.toList.drop 3) := by
            rw [extract_str, List.take_of_length_le (by rw [List.length_drop, show x.data.toList.length = x.size from rfl]; exact Nat.le_refl _)]
          obtain ⟨Y, HY⟩ := named (str (x.data.toList.drop 3))
          rw [← HY.out] at hex
          have hYz : Y.size = 61 := by rw [HY.out, str_size, List.length_drop, show x.data.toList.length = x.size from rfl, hs]
          have hbl : (bytesOf (tl.take k)).length = 61 * k := by rw [bytesOf_len _ hsz, List.length_take]; omega
          have Hbl := hide hbl
          have Hs := hide hs
          clear hbl hs
          go_wp2_with fail
          refine (writeString_b (hB + 1) (hB + 1) _ Y _ hBd (by rw [bc_length, Hbl.out]; omega) (by omega)).mono ?_
          rw [bc_str, HY.out, str_data]
          rintro e w2' ⟨rfl, hBd2, hb2'⟩
          have hw2s := Below.size hb2'
          go_wp2
          go_roundw
          case rel => exact ⟨k + 1, by omega, by go_num, by
            rw [List.take_succ_eq_append_getElem hlt, ← Hx.out]
            intro s hs'
            rcases List.mem_append.1 hs' with h' | h'
            · exact hsz s h'
            · rw [List.mem_singleton.1 h']; exact Hs.out, by
            rw [List.take_succ_eq_append_getElem hlt, ← Hx.out, bytesOf_snoc]; exact hBd2, hb.trans hb2'⟩
          case measure => simp [intOf]; omega
        · have hs1 : ((x.size : Int) != 64) = true := by simp; omega
          have Hres := hno (.inl ⟨tl[k], hmem, by rw [← Hx.out]; exact hs⟩)
          clear hs
          have r0 := t2.cell 0
          have r1 := t2.cell 1
          have r2 := t2.cell 2
          have r3 := t2.cell 3
          have z0 := t2.free 0
          have z1 := t2.free 1
          have z2 := t2.free 2
          have z3 := t2.free 3
          go_wp2
          refine bodyPost_ret (v := .tuple #[.agg #[.int .u8 0, .int .u64 0, .int .u64 0, .string ⟨#[]⟩], .int .i64 14]) (by simp [results, Try.results58, go_sem, r0, r1, r2, r3]) rfl ?_
          exact ⟨by rw [Hres.1, Hres.2]; rfl, below4' t3 (Nat.le_refl _) (.int .u8 0) (.int .u64 0) (.int .u64 0) (.string ⟨#[]⟩)⟩
      · obtain rfl : k = tl.length := by omega
        rw [List.take_length] at hBd hsz
        have hbl : (bytesOf tl).length = 61 * tl.length := bytesOf_len _ hsz
        have t4 := Lib.IsBuilderF.of hBd
        obtain ⟨P, HP⟩ := named (bytesOf tl)
        rw [← HP.out] at t4 hbl
        obtain ⟨PS, HPS⟩ := named (str P)
        have hPSz : n18 ≤ PS.size := by rw [HPS.out, str_size, hbl, Htl.out, Hnp.out]; unfold piecesN; omega
        have hPi : (n18 : Int) ≤ (PS.size : Int) := by omega
        have hP0 : (0 : Int) ≤ (n18 : Int) := by omega
        have hex : PS.extract 0 n18 = str (P.take n18) := by rw [HPS.out, str_extract]; rfl
        obtain ⟨X, HX⟩ := named (str (P.take n18))
        rw [← HX.out] at hex
        have HXs : Hid (X.size = n18) := by
          show _ = _
          rw [HX.out, str_size, List.length_take]
          have : PS.size = P.length := by rw [HPS.out, str_size]
          omega
        have hXd : X.data.toList = P.take n18 := by rw [HX.out, str_data]
        have hread : (⟨k1, n2, n10, X.data.toList⟩ : Fr) = readT s0 tl := by
          rw [hXd, HP.out, readT, Hk1.out, Hn2.out, Hn10.out, Hn18.out]
        have hres_yes : (sectorsL ⟨k1, n2, n10, X.data.toList⟩).map str = s0 :: tl → joinV s0 tl = .agg #[.int .u8 (k1.toNat : Int), .int .u64 (n2 : Int), .int .u64 (n10 : Int), .string X] ∧ joinE s0 tl = 0 := fun hf => by
          have := join_some s0 tl ⟨hsz, by rw [← hread]; exact hf⟩
          rw [this.1, this.2, ← hread]
          exact ⟨by rw [frVal, str_of], rfl⟩
        have hres_no : ¬ (sectorsL ⟨k1, n2, n10, X.data.toList⟩).map str = s0 :: tl → joinV s0 tl = zeroFrame ∧ joinE s0 tl = 14 := fun hf => hno (.inr (by rw [← hread]; exact hf))
        clear hread hXd HX HP hbl hno hsz hBd hPSz
        have hn16 : X.size ≤ 16384 := by have := HXs.out; omega
        go_wp2_with fail
        refine region_tail 12 _ (fun u => Blk u hB [.int .u8 (k1.toNat : Int), .int .u64 (n2 : Int), .int .u64 (n10 : Int), .int .i64 (n18 : Int), .int .u32 (n22 : Int)] 87 ∧ Blk u w.heap.size [.int .u8 0, .int .u64 0, .int .u64 0, .string ⟨#[]⟩] 61 ∧ Below w.heap.size w u ∧ Lib.IsBuilderF 124 5 (hB + 1) (hB + 1) (Lib.byteCells P) u ∧ hB + 2 ≤ u.heap.size) (fun u u' => Below (hB + 1) u u' ∧ Lib.OthersKept 5 (some (hB + 1)) u u')
          (rel [fun v _ => v = .pointer (some ⟨hB, 0, none⟩),
            fun v _ => v = .int .u8 (k1.toNat : Int),
            fun v _ => v = .pointer (some ⟨hB, 1, none⟩),
            fun v _ => v = .int .u64 (n2 : Int),
            fun v _ => v = .pointer (some ⟨hB, 2, none⟩),
            fun v _ => v = .int .u64 (n10 : Int),
            fun v _ => v = .string PS,
            fun v _ => v = .pointer (some ⟨hB, 3, none⟩),
            fun v _ => v = .int .i64 (n18 : Int),
            fun v _ => v = .string X,
            fun v _ => v = .agg #[.int .u8 (k1.toNat : Int), .int .u64 (n2 : Int), .int .u64 (n10 : Int), .string X],
            fun v u => ∃ g, v = .pointer (some ⟨g, 0, none⟩) ∧ hB + 2 ≤ g ∧ Blk u g [.int .u8 0, .int .u64 0, .int .u64 0, .string ⟨#[]⟩] 61])
          (by kernel_rfl) (by kernel_rfl) (by kernel_rfl) (by decide) (fun v => by simp only [putsV, List.take_succ_cons, List.take_zero, Act.put, List.toList_toArray, List.setIfInBounds_toArray, List.set_cons_zero, List.set_cons_succ, Nat.reduceAdd, Nat.zero_add]; rfl) ?_ ⟨t1, t2, t3.drew, t4, t5⟩ ?_ ?_
        · intro j x u u' hb h
          match j with
          | 0 => exact h
          | 1 => exact h
          | 2 => exact h
          | 3 => exact h
          | 4 => exact h
          | 5 => exact h
          | 6 => exact h
          | 7 => exact h
          | 8 => exact h
          | 9 => exact h
          | 10 => exact h
          | 11 => exact (let ⟨g, e, hle, hg⟩ := h; ⟨g, e, hle, hb.2 g _ hg (by intro e'; injection e' with e'; omega) (by rintro c fz e'; cases e')⟩)
          | _ + 12 => trivial
        · refine ⟨?_, ?_, ?_, ?_, ?_, ?_, ?_, ?_, ?_, ?_, ?_, ?_, trivial⟩
          · intro v u hS hd K' hK
            simp only [waited, List.toList_toArray, Region.binds, rel, List.getD_cons_zero, List.getD_cons_succ, true_imp_iff, and_true] at hd
            simp only [rel, List.getD_cons_zero, List.getD_cons_succ, Act.put, List.setIfInBounds_toArray, List.set_cons_zero, List.set_cons_succ] at hK
            try simp only [hd] at hK
            obtain ⟨hS1, hS2, hS3, hS4, hS5⟩ := hS
            go_simp
            exact hK.out _ _ ⟨⟨hS1, hS2, hS3, hS4, hS5⟩, ⟨Below.refl _ _, Lib.OthersKept.refl _ _ _⟩, rfl⟩
          · intro v u hS hd K' hK
            simp only [waited, List.toList_toArray, Region.binds, rel, List.getD_cons_zero, List.getD_cons_succ, true_imp_iff, and_true] at hd
            simp only [rel, List.getD_cons_zero, List.getD_cons_succ, Act.put, List.setIfInBounds_toArray, List.set_cons_zero, List.set_cons_succ] at hK
            try simp only [hd] at hK
            obtain ⟨hS1, hS2, hS3, hS4, hS5⟩ := hS
            have x0 := hS1.cell 0
            go_simp
            exact hK.out _ _ ⟨⟨hS1, hS2, hS3, hS4, hS5⟩, ⟨Below.refl _ _, Lib.OthersKept.refl _ _ _⟩, rfl⟩
          · intro v u hS hd K' hK
            simp only [waited, List.toList_toArray, Region.binds, rel, List.getD_cons_zero, List.getD_cons_succ, true_imp_iff, and_true] at hd
            simp only [rel, List.getD_cons_zero, List.getD_cons_succ, Act.put, List.setIfInBounds_toArray, List.set_cons_zero, List.set_cons_succ] at hK
            try simp only [hd] at hK
            obtain ⟨hS1, hS2, hS3, hS4, hS5⟩ := hS
            go_simp
            exact hK.out _ _ ⟨⟨hS1, hS2, hS3, hS4, hS5⟩, ⟨Below.refl _ _, Lib.OthersKept.refl _ _ _⟩, rfl⟩
          · intro v u hS hd K' hK
            simp only [waited, List.toList_toArray, Region.binds, rel, List.getD_cons_zero, List.getD_cons_succ, true_imp_iff, and_true] at hd
            simp only [rel, List.getD_cons_zero, List.getD_cons_succ, Act.put, List.setIfInBounds_toArray, List.set_cons_zero, List.set_cons_succ] at hK
            try simp only [hd] at hK
            obtain ⟨hS1, hS2, hS3, hS4, hS5⟩ := hS
            have x0 := hS1.cell 1
            go_simp
            exact hK.out _ _ ⟨⟨hS1, hS2, hS3, hS4, hS5⟩, ⟨Below.refl _ _, Lib.OthersKept.refl _ _ _⟩, rfl⟩
          · intro v u hS hd K' hK
            simp only [waited, List.toList_toArray, Region.binds, rel, List.getD_cons_zero, List.getD_cons_succ, true_imp_iff, and_true] at hd
            simp only [rel, List.getD_cons_zero, List.getD_cons_succ, Act.put, List.setIfInBounds_toArray, List.set_cons_zero, List.set_cons_succ] at hK
            try simp only [hd] at hK
            obtain ⟨hS1, hS2, hS3, hS4, hS5⟩ := hS
            go_simp
            exact hK.out _ _ ⟨⟨hS1, hS2, hS3, hS4, hS5⟩, ⟨Below.refl _ _, Lib.OthersKept.refl _ _ _⟩, rfl⟩
          · intro v u hS hd K' hK
            simp only [waited, List.toList_toArray, Region.binds, rel, List.getD_cons_zero, List.getD_cons_succ, true_imp_iff, and_true] at hd
            simp only [rel, List.getD_cons_zero, List.getD_cons_succ, Act.put, List.setIfInBounds_toArray, List.set_cons_zero, List.set_cons_succ] at hK
            try simp only [hd] at hK
            obtain ⟨hS1, hS2, hS3, hS4, hS5⟩ := hS
            have x0 := hS1.cell 2
            go_simp
            exact hK.out _ _ ⟨⟨hS1, hS2, hS3, hS4, hS5⟩, ⟨Below.refl _ _, Lib.OthersKept.refl _ _ _⟩, rfl⟩
          · intro v u hS hd K' hK
            simp only [waited, List.toList_toArray, Region.binds, rel, List.getD_cons_zero, List.getD_cons_succ, true_imp_iff, and_true] at hd
            simp only [rel, List.getD_cons_zero, List.getD_cons_succ, Act.put, List.setIfInBounds_toArray, List.set_cons_zero, List.set_cons_succ] at hK
            try simp only [hd] at hK
            obtain ⟨hS1, hS2, hS3, hS4, hS5⟩ := hS
            go_simp
            refine (Try.Builder_String_any_k (hB + 1) (hB + 1) P _ hS4 (by omega)).mono ?_
            rintro e w2 ⟨rfl, h1, h2, h3⟩
            exact hK.out _ _ ⟨⟨(h2.block hB (by omega)).trans hS1, (h2.block w.heap.size (by omega)).trans hS2, hS3.trans (h2.mono (by omega)), h1, Nat.le_trans hS5 h2.size⟩, ⟨h2, h3⟩, by rw [HPS.out]; rfl⟩
          · intro v u hS hd K' hK
            simp only [waited, List.toList_toArray, Region.binds, rel, List.getD_cons_zero, List.getD_cons_succ, true_imp_iff, and_true] at hd
            simp only [rel, List.getD_cons_zero, List.getD_cons_succ, Act.put, List.setIfInBounds_toArray, List.set_cons_zero, List.set_cons_succ] at hK
            try simp only [hd] at hK
            obtain ⟨hS1, hS2, hS3, hS4, hS5⟩ := hS
            go_simp
            exact hK.out _ _ ⟨⟨hS1, hS2, hS3, hS4, hS5⟩, ⟨Below.refl _ _, Lib.OthersKept.refl _ _ _⟩, rfl⟩
          · intro v u hS hd K' hK
            simp only [waited, List.toList_toArray, Region.binds, rel, List.getD_cons_zero, List.getD_cons_succ, true_imp_iff, and_true] at hd
            simp only [rel, List.getD_cons_zero, List.getD_cons_succ, Act.put, List.setIfInBounds_toArray, List.set_cons_zero, List.set_cons_succ] at hK
            try simp only [hd] at hK
            obtain ⟨hS1, hS2, hS3, hS4, hS5⟩ := hS
            have x0 := hS1.cell 3
            go_simp
            exact hK.out _ _ ⟨⟨hS1, hS2, hS3, hS4, hS5⟩, ⟨Below.refl _ _, Lib.OthersKept.refl _ _ _⟩, rfl⟩
          · intro v u hS hd K' hK
            simp only [waited, List.toList_toArray, Region.binds, rel, List.getD_cons_zero, List.getD_cons_succ, true_imp_iff, and_true] at hd
            simp only [rel, List.getD_cons_zero, List.getD_cons_succ, Act.put, List.setIfInBounds_toArray, List.set_cons_zero, List.set_cons_succ] at hK
            try simp only [hd] at hK
            obtain ⟨hS1, hS2, hS3, hS4, hS5⟩ := hS
            go_simp
            exact hK.out _ _ ⟨⟨hS1, hS2, hS3, hS4, hS5⟩, ⟨Below.refl _ _, Lib.OthersKept.refl _ _ _⟩, rfl⟩
          · intro v u hS hd K' hK
            simp only [waited, List.toList_toArray, Region.binds, rel, List.getD_cons_zero, List.getD_cons_succ, true_imp_iff, and_true] at hd
            simp only [rel, List.getD_cons_zero, List.getD_cons_succ, Act.put, List.setIfInBounds_toArray, List.set_cons_zero, List.set_cons_succ] at hK
            try simp only [hd] at hK
            obtain ⟨hS1, hS2, hS3, hS4, hS5⟩ := hS
            go_simp
            exact hK.out _ _ ⟨⟨hS1, hS2, hS3, hS4, hS5⟩, ⟨Below.refl _ _, Lib.OthersKept.refl _ _ _⟩, rfl⟩
          · intro v u hS hd K' hK
            simp only [waited, List.toList_toArray, Region.binds, rel, List.getD_cons_zero, List.getD_cons_succ, true_imp_iff, and_true] at hd
            simp only [rel, List.getD_cons_zero, List.getD_cons_succ, Act.put, List.setIfInBounds_toArray, List.set_cons_zero, List.set_cons_succ] at hK
            try simp only [hd] at hK
            obtain ⟨hS1, hS2, hS3, hS4, hS5⟩ := hS
            go_simp
            exact hK.out _ _ ⟨⟨hS1.alloc _, hS2.alloc _, hS3.alloc hS3.size _, Lib.IsBuilderF.alloc hS4 _, Nat.le_trans hS5 (below_alloc _ _).size⟩, ⟨(Below.refl _ _).alloc (by omega) _, (Lib.OthersKept.refl _ _ _).alloc _⟩, ⟨_, rfl, hS5, Blk.new _ _ _⟩⟩
        · rintro v u ⟨hS1, hS2, hS3, hS4, hS5⟩ hR
          simp only [holdAll, List.size_toArray, List.length_cons, List.length_nil, Nat.reduceAdd, rel, List.getD_cons_zero, List.getD_cons_succ] at hR
          simp only [List.toList_toArray, List.drop_succ_cons, List.drop_zero]
          obtain ⟨hR0, gf, h11, hgf, k11⟩ := hR
          have v10 := hR0.2
          simp only [v10, h11]
          clear hR0 v10 h11
          have y := k11.cell
          have z := k11.free
          refine seqOps_cons fun K hK => ?_
          go_simp
          refine hK.out _ _ (seqOps_nil ?_)
          clear hK y z
          have q1 : Blk _ gf [.int .u8 (k1.toNat : Int), .int .u64 (n2 : Int), .int .u64 (n10 : Int), .string X] 61 := (((k11.set 0 (.int .u8 (k1.toNat : Int))).set 1 (.int .u64 (n2 : Int))).set 2 (.int .u64 (n10 : Int))).set 3 (.string X)
          have q2 := ((((hS2.far (p := ⟨gf, 0, none⟩) (by show w.heap.size ≠ gf; omega) (.int .u8 (k1.toNat : Int))).far (p := ⟨gf, 1, none⟩) (by show w.heap.size ≠ gf; omega) (.int .u64 (n2 : Int))).far (p := ⟨gf, 2, none⟩) (by show w.heap.size ≠ gf; omega) (.int .u64 (n10 : Int))).far (p := ⟨gf, 3, none⟩) (by show w.heap.size ≠ gf; omega) (.string X))
          have q3 := below4' hS3 (X := gf) (by omega) (.int .u8 (k1.toNat : Int)) (.int .u64 (n2 : Int)) (.int .u64 (n10 : Int)) (.string X)
          obtain ⟨W6, HW6⟩ := named ((((u.setCell ⟨gf, 0, none⟩ (.int .u8 (k1.toNat : Int))).setCell ⟨gf, 1, none⟩ (.int .u64 (n2 : Int))).setCell ⟨gf, 2, none⟩ (.int .u64 (n10 : Int))).setCell ⟨gf, 3, none⟩ (.string X))
          rw [← HW6.out] at q1 q2 q3 ⊢
          clear HW6 hS1 hS2 hS3 hS4 hS5 k11
          have y := q1.cell
          go_wp2_with fail
          refine (recSectors_yes k1 n2 n10 X _ Hk.out (by omega)).mono ?_
          rintro e w7 ⟨⟨A7, c7, rfl, hc7, ht7⟩, hb7⟩
          have p1 := q1.below hb7
          have p2 := q2.below hb7
          have p3 := bt q3 hb7
          clear y q1 q2 q3
          have hne7 : ((sectorsL ⟨k1, n2, n10, X.data.toList⟩).map str).length = tl.length + 1 := by rw [List.length_map, sectorsL_length]; show piecesN X.data.toList.length + 1 = _; rw [show X.data.toList.length = n18 from HXs.out, ← Hnp.out, Htl.out]
          obtain ⟨b7, o7, rfl, _⟩ := Texts.at_ ht7 (k := 0) (by omega)
          obtain ⟨LL, HLL⟩ := named ((sectorsL ⟨k1, n2, n10, X.data.toList⟩).map str)
          rw [← HLL.out] at ht7 hne7
          rw [show piecesN X.size = tl.length by rw [show X.size = n18 from HXs.out, ← Hnp.out]; exact Htl.out.symm]
          have hts : Texts w7 (some ⟨ab, ao, none⟩) (s0 :: tl) := Texts.below ht p3
          go_wp2_with fail
          refine (Try.slices_Equal_string b7 o7 (tl.length + 1) c7 ab ao (tl.length + 1) _ LL (s0 :: tl) _ (by omega) (by simp) (by omega) (by omega) (texts_cells ht7) (texts_cells hts)).mono ?_
          rw [List.take_of_length_le (by omega), List.take_of_length_le (by simp)]
          rintro e w8 ⟨rfl, qn, rfl⟩
          have m1 : Blk (w7.drewN qn) gf _ _ := p1
          have m2 : Blk (w7.drewN qn) w.heap.size _ _ := p2
          have m3 : Below w.heap.size w (w7.drewN qn) := below_drewN p3 qn
          clear p1 p2 p3 hts ht7
          by_cases hfit : LL = s0 :: tl
          · have hdec := decide_eq_true hfit
            have Hres := hres_yes (by rw [← HLL.out]; exact hfit)
            rw [hdec]
            clear hdec hfit
            have r0 := m2.cell 0
            have r1 := m2.cell 1
            have r2 := m2.cell 2
            have r3 := m2.cell 3
            have z0 := m2.free 0
            have z1 := m2.free 1
            have z2 := m2.free 2
            have z3 := m2.free 3
            have y := m1.cell
            go_wp2
            refine bodyPost_ret (v := .tuple #[.agg #[.int .u8 (k1.toNat : Int), .int .u64 (n2 : Int), .int .u64 (n10 : Int), .string X], .int .i64 0]) (by simp [results, Try.results58, go_sem, r0, r1, r2, r3]) rfl ?_
            exact ⟨by rw [Hres.1, Hres.2], below4' m3 (Nat.le_refl _) _ _ _ _⟩
          · have hdec := decide_eq_false hfit
            have Hres := hres_no (by rw [← HLL.out]; exact hfit)
            rw [hdec]
            clear hdec hfit
            have r0 := m2.cell 0
            have r1 := m2.cell 1
            have r2 := m2.cell 2
            have r3 := m2.cell 3
            have z0 := m2.free 0
            have z1 := m2.free 1
            have z2 := m2.free 2
            have z3 := m2.free 3
            go_wp2
            refine bodyPost_ret (v := .tuple #[.agg #[.int .u8 0, .int .u64 0, .int .u64 0, .string ⟨#[]⟩], .int .i64 14]) (by simp [results, Try.results58, go_sem, r0, r1, r2, r3]) rfl ?_
            exact ⟨by rw [Hres.1, Hres.2]; rfl, below4' m3 (Nat.le_refl _) (.int .u8 0) (.int .u64 0) (.int .u64 0) (.string ⟨#[]⟩)⟩
end Go.Proofs.Ytpfbmmeipojodaa
