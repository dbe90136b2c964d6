/- The document's Join of chapter 03. -/
import Derived.Test.YtpfbmmeipojodaaRecRefHead
import Derived.Test.YtpfbmmeipojodaaRecPiece
import Derived.Test.YtpfbmmeipojodaaGE
namespace Go.Proofs.Ytpfbmmeipojodaa
set_option linter.unusedSimpArgs false
set_option linter.unusedVariables false
open Go.RowKit Go.Shelf
open Crc
/-- What is read of the first k pieces. -/
def paid (tl : List ByteArray) (n k : Nat) : List UInt8 := (bytesOf (tl.take k)).take n
theorem paid_step {tl : List ByteArray} {n k : Nat} (hk : k < tl.length) (hs : ∀ s ∈ tl.take (k + 1), s.size = 64) (hn : 61 * k < n) : paid tl n (k + 1) = paid tl n k ++ ((tl[k]).data.toList.drop 3).take (min 61 (n - 61 * k)) := by
  have h0 : ∀ s ∈ tl.take k, s.size = 64 := fun s h => hs s (by rw [List.take_succ_eq_append_getElem hk]; exact List.mem_append_left _ h)
  have hl : (bytesOf (tl.take k)).length = 61 * k := by rw [bytesOf_len _ h0, List.length_take]; omega
  have hx : (tl[k]).size = 64 := hs _ (by rw [List.take_succ_eq_append_getElem hk]; exact List.mem_append_right _ (List.mem_singleton.2 rfl))
  have hx3 : ((tl[k]).data.toList.drop 3).length = 61 := by rw [List.length_drop, show (tl[k]).data.toList.length = (tl[k]).size from rfl, hx]
  unfold paid
  rw [List.take_succ_eq_append_getElem hk, bytesOf_snoc, List.take_append, hl, List.take_of_length_le (l := bytesOf (tl.take k)) (by omega)]
  congr 1
  rcases Nat.le_total 61 (n - 61 * k) with h | h
  · rw [Nat.min_eq_left h, List.take_of_length_le (by omega), List.take_of_length_le (by omega)]
  · rw [Nat.min_eq_right h]
theorem paid_len {tl : List ByteArray} {n k : Nat} (hk : k ≤ tl.length) (hs : ∀ s ∈ tl.take k, s.size = 64) : (paid tl n k).length = min n (61 * k) := by
  have hl : (bytesOf (tl.take k)).length = 61 * k := by rw [bytesOf_len _ hs, List.length_take]; omega
  rw [paid, List.length_take, hl]
theorem paid_take {tl : List ByteArray} {n k : Nat} (hk : k ≤ tl.length) (hs : ∀ s ∈ tl, s.size = 64) : paid tl n k = (paid tl n tl.length).take (61 * k) := by
  have h0 : ∀ s ∈ tl.take k, s.size = 64 := fun s h => hs s (List.mem_of_mem_take h)
  have hl : (bytesOf (tl.take k)).length = 61 * k := by rw [bytesOf_len _ h0, List.length_take]; omega
  have hsplit : bytesOf tl = bytesOf (tl.take k) ++ bytesOf (tl.drop k) := by
    conv => lhs; rw [← List.take_append_drop k tl]
    rw [bytesOf, List.flatMap_append]
    rfl
  unfold paid
  rw [List.take_length, List.take_take, hsplit, List.take_append, hl]
  rcases Nat.le_total n (61 * k) with h | h
  · rw [Nat.min_eq_right h, Nat.sub_eq_zero_of_le h]; simp
  · rw [Nat.min_eq_left h, Nat.sub_self]
    simp only [List.take_zero, List.append_nil]
    rw [List.take_of_length_le (l := bytesOf (tl.take k)) (i := n) (by omega), List.take_of_length_le (l := bytesOf (tl.take k)) (by omega)]
/-- A piece hangs on its own bytes alone. -/
theorem pieceL_take (p : List UInt8) (i m : Nat) (h : 61 * (i + 1) ≤ m) : pieceL (p.take m) i = pieceL p i := by
  unfold pieceL
  congr 2
  rw [List.drop_take, List.take_take, Nat.min_eq_left (by omega)]
theorem fit_iff (s0 : ByteArray) (tl : List ByteArray) (h : HeadOk s0.data.toList) (hcnt : tl.length = piecesN (atL s0.data.toList 18 4)) :
    JoinFit s0 tl ↔ (∀ s ∈ tl, s.size = 64) ∧ (∀ k (hk : k < tl.length), (tl[k]).data.toList = pieceL (paid tl (atL s0.data.toList 18 4) (k + 1)) k) ∧ crcOf (paid tl (atL s0.data.toList 18 4) tl.length) = atL s0.data.toList 22 4 := by
  have hpay : (readT s0 tl).pay = paid tl (atL s0.data.toList 18 4) tl.length := by rw [readT, paid, List.take_length]
  have hs0 : s0 = str s0.data.toList := (str_of s0).symm
  have hhd := head_of_ok h
  constructor
  · rintro ⟨hs, hf⟩
    have hlen : (paid tl (atL s0.data.toList 18 4) tl.length).length = atL s0.data.toList 18 4 := by
      rw [paid_len (Nat.le_refl _) (by rw [List.take_length]; exact hs), hcnt]; unfold piecesN; omega
    rw [sectors_cons] at hf
    injection hf with h1 h2
    refine ⟨hs, fun k hk => ?_, ?_⟩
    · have := congrArg (fun l => l[k]?) h2
      rw [hpay, hlen, ← hcnt] at this
      simp only [List.getElem?_map, List.getElem?_range hk, Option.map_some, List.getElem?_eq_getElem hk, Option.some.injEq] at this
      rw [← this, str_data, paid_take (k := k + 1) hk hs, pieceL_take _ _ _ (Nat.le_refl _)]
    · have e : frHead (readT s0 tl) = s0.data.toList := by
        have := congrArg (fun b : ByteArray => b.data.toList) h1
        simpa only [str_data] using this
      have := congrArg (fun l => atL l 22 4) e
      simp only [frHead, head_at22] at this
      rw [Nat.mod_eq_of_lt (by have := crcOf_lt (readT s0 tl).pay; exact Nat.lt_of_lt_of_eq this (by decide))] at this
      rw [← hpay]
      exact this
  · rintro ⟨hs, hp, hc⟩
    have hlen : (paid tl (atL s0.data.toList 18 4) tl.length).length = atL s0.data.toList 18 4 := by
      rw [paid_len (Nat.le_refl _) (by rw [List.take_length]; exact hs), hcnt]; unfold piecesN; omega
    refine ⟨hs, ?_⟩
    rw [sectors_cons]
    congr 1
    · have e : frHead (readT s0 tl) = s0.data.toList := by
        rw [frHead, hpay, hc, hlen]
        exact hhd
      rw [e, str_of]
    · rw [hpay, hlen, ← hcnt]
      apply List.ext_getElem
      · simp
      · intro k h1 h2
        simp only [List.getElem_map, List.getElem_range]
        rw [← pieceL_take (paid tl (atL s0.data.toList 18 4) tl.length) k (61 * (k + 1)) (Nat.le_refl _), ← paid_take (k := k + 1) h2 hs, ← hp k h2, str_of]
set_option maxHeartbeats 8000000 in
set_option maxRecDepth 100000 in
theorem refJoin_empty (A : Option Addr) (c : Nat) (w : World) :
    Calls Try.prog 94 #[.slice A 0 c] w fun e w' => e = .returned (.tuple #[zeroFrame, .int .i64 14]) ∧ Below w.heap.size w w' := by
  go_enter Try.func94, Try.ntmps94
  go_wp2
  refine bodyPost_ret (v := .tuple #[.agg #[.int .u8 0, .int .u64 0, .int .u64 0, .string ⟨#[]⟩], .int .i64 14]) (by simp [results, Try.results94, go_sem]) rfl ?_
  exact ⟨rfl, below_alloc _ _⟩
set_option maxHeartbeats 8000000 in
set_option maxRecDepth 100000 in
theorem refJoin_badhead (A : Option Addr) (c : Nat) (s0 : ByteArray) (tl : List ByteArray) (w : World) (ht : Texts w A (s0 :: tl)) (hn : tl.length ≤ 140737488351232) (h : ¬ HeadOk s0.data.toList) :
    Calls Try.prog 94 #[.slice A (tl.length + 1) c] w fun e w' => e = .returned (.tuple #[zeroFrame, .int .i64 14]) ∧ Below w.heap.size w w' := by
  have hK := Blk.new w [.int .u8 0, .int .u64 0, .int .u64 0, .string ⟨#[]⟩] 61
  have hb := below_alloc w (.cells #[.int .u8 0, .int .u64 0, .int .u64 0, .string ⟨#[]⟩] 61)
  have hpos : (0 : Int) < ((tl.length + 1 : Nat) : Int) := by omega
  have hne0 : (((tl.length + 1 : Nat) : Int) == 0) = false := by simp; omega
  have ht0 := Texts.below ht hb
  obtain ⟨ab, ao, rfl, hc0⟩ := Texts.at_ ht0 (k := 0) (by simp)
  have hc1 : (w.alloc (.cells #[.int .u8 0, .int .u64 0, .int .u64 0, .string ⟨#[]⟩] 61)).cell? ⟨ab, ao, none⟩ = some (.string s0) := hc0
  clear hc0
  go_enter Try.func94, Try.ntmps94
  go_wp2_with fail
  refine (refHead_no s0 _ h).mono ?_
  unfold zeroHead
  rintro e w2 ⟨rfl, hb2⟩
  have kk := hK.below hb2
  have bb := bt hb hb2
  clear hK hb hb2 hc1
  have k5 := kk.alloc (.cells #[.int .u8 0, .int .u64 0, .int .u64 0, .int .i64 0, .int .u32 0] 87)
  have b5 := bb.alloc bb.size (.cells #[.int .u8 0, .int .u64 0, .int .u64 0, .int .i64 0, .int .u32 0] 87)
  go_wp2_with fail
  refine (refPieces_yes 0 _ (by omega)).mono ?_
  rintro e w3 ⟨rfl, rfl⟩
  have r0 := k5.cell 0
  have r1 := k5.cell 1
  have r2 := k5.cell 2
  have r3 := k5.cell 3
  have z0 := k5.free 0
  have z1 := k5.free 1
  have z2 := k5.free 2
  have z3 := k5.free 3
  go_wp2
  refine bodyPost_ret (v := .tuple #[.agg #[.int .u8 0, .int .u64 0, .int .u64 0, .string ⟨#[]⟩], .int .i64 14]) (by simp [results, Try.results94, go_sem, r0, r1, r2, r3]) rfl ?_
  exact ⟨rfl, below4' b5 (Nat.le_refl _) (.int .u8 0) (.int .u64 0) (.int .u64 0) (.string ⟨#[]⟩)⟩
set_option maxHeartbeats 8000000 in
set_option maxRecDepth 100000 in
theorem refJoin_count (A : Option Addr) (c : Nat) (s0 : ByteArray) (tl : List ByteArray) (w : World) (ht : Texts w A (s0 :: tl)) (hn : tl.length ≤ 140737488351232) (h : HeadOk s0.data.toList) (hcnt : tl.length ≠ piecesN (atL s0.data.toList 18 4)) :
    Calls Try.prog 94 #[.slice A (tl.length + 1) c] w fun e w' => e = .returned (.tuple #[zeroFrame, .int .i64 14]) ∧ Below w.heap.size w w' := by
  have hK := Blk.new w [.int .u8 0, .int .u64 0, .int .u64 0, .string ⟨#[]⟩] 61
  have hb := below_alloc w (.cells #[.int .u8 0, .int .u64 0, .int .u64 0, .string ⟨#[]⟩] 61)
  have hpos : (0 : Int) < ((tl.length + 1 : Nat) : Int) := by omega
  have hne0 : (((tl.length + 1 : Nat) : Int) == 0) = false := by simp; omega
  have ht0 := Texts.below ht hb
  obtain ⟨ab, ao, rfl, hc0⟩ := Texts.at_ ht0 (k := 0) (by simp)
  have hc1 : (w.alloc (.cells #[.int .u8 0, .int .u64 0, .int .u64 0, .string ⟨#[]⟩] 61)).cell? ⟨ab, ao, none⟩ = some (.string s0) := hc0
  clear hc0
  go_enter Try.func94, Try.ntmps94
  go_wp2_with fail
  have hyes := refHead_yes s0
  have hlen0 : atL s0.data.toList 18 4 ≤ 16384 := h.len
  obtain ⟨k1, Hk1⟩ := named (s0.data.toList.getD 1 0)
  obtain ⟨n2, Hn2⟩ := named (atL s0.data.toList 2 8)
  obtain ⟨n10, Hn10⟩ := named (atL s0.data.toList 10 8)
  obtain ⟨n18, Hn18⟩ := named (atL s0.data.toList 18 4)
  obtain ⟨n22, Hn22⟩ := named (atL s0.data.toList 22 4)
  unfold headVal at hyes
  rw [← Hk1.out, ← Hn2.out, ← Hn10.out, ← Hn18.out, ← Hn22.out] at hyes
  rw [← Hn18.out] at hlen0
  refine (hyes _ h).mono ?_
  rintro e w2 ⟨rfl, hb2⟩
  have kk := hK.below hb2
  have bb := bt hb hb2
  clear hK hb hb2 hc1 hyes ht0
  have kh := Blk.new w2 [.int .u8 (k1.toNat : Int), .int .u64 (n2 : Int), .int .u64 (n10 : Int), .int .i64 (n18 : Int), .int .u32 (n22 : Int)] 87
  have k5 := kk.alloc (.cells #[.int .u8 (k1.toNat : Int), .int .u64 (n2 : Int), .int .u64 (n10 : Int), .int .i64 (n18 : Int), .int .u32 (n22 : Int)] 87)
  have b5 := bb.alloc bb.size (.cells #[.int .u8 (k1.toNat : Int), .int .u64 (n2 : Int), .int .u64 (n10 : Int), .int .i64 (n18 : Int), .int .u32 (n22 : Int)] 87)
  have hlt5 := kk.lt
  go_wp2_with fail
  obtain ⟨hB, HhB⟩ := named w2.heap.size
  obtain ⟨W3, HW3⟩ := named (w2.alloc (.cells #[.int .u8 (k1.toNat : Int), .int .u64 (n2 : Int), .int .u64 (n10 : Int), .int .i64 (n18 : Int), .int .u32 (n22 : Int)] 87))
  rw [← HhB.out] at kh hlt5 ⊢
  rw [← HW3.out] at kh k5 b5 ⊢
  clear HW3 HhB kk bb
  refine (refPieces_yes n18 _ hlen0).mono ?_
  rintro e w3 ⟨rfl, rfl⟩
  obtain ⟨np, Hnp⟩ := named (piecesN n18)
  rw [← Hnp.out]
  have hnp : np ≤ 269 := by rw [Hnp.out]; unfold piecesN; omega
  have hcc : (((tl.length + 1 : Nat) : Int) != (np : Int) + 1) = true := by rw [Hnp.out, Hn18.out]; simp; omega
  clear Hnp Hn18 hcnt
  have r0 := k5.cell 0
  have r1 := k5.cell 1
  have r2 := k5.cell 2
  have r3 := k5.cell 3
  have z0 := k5.free 0
  have z1 := k5.free 1
  have z2 := k5.free 2
  have z3 := k5.free 3
  go_wp2
  refine bodyPost_ret (v := .tuple #[.agg #[.int .u8 0, .int .u64 0, .int .u64 0, .string ⟨#[]⟩], .int .i64 14]) (by simp [results, Try.results94, go_sem, r0, r1, r2, r3]) rfl ?_
  exact ⟨rfl, below4' b5 (Nat.le_refl _) (.int .u8 0) (.int .u64 0) (.int .u64 0) (.string ⟨#[]⟩)⟩
set_option maxHeartbeats 8000000 in
set_option maxRecDepth 100000 in
theorem refJoin_w (A : Option Addr) (c : Nat) (s0 : ByteArray) (tl : List ByteArray) (w : World) (hcap : tl.length + 1 ≤ c) (ht : Texts w A (s0 :: tl)) (hn : tl.length ≤ 140737488351232) (h : HeadOk s0.data.toList) (hcnt : tl.length = piecesN (atL s0.data.toList 18 4)) :
    Calls Try.prog 94 #[.slice A (tl.length + 1) c] w fun e w' => e = .returned (.tuple #[joinV s0 tl, .int .i64 (joinE s0 tl)]) ∧ Below w.heap.size w w' := by
  have hfit := fit_iff s0 tl h hcnt
  have hno0 : ¬ JoinFit s0 tl → joinV s0 tl = zeroFrame ∧ joinE s0 tl = 14 := fun hn => by unfold joinV joinE; rw [if_neg hn, if_neg hn]; exact ⟨rfl, rfl⟩
  have hsome := join_some s0 tl
  have Hcnt := hide hcnt
  clear hcnt
  have hK := Blk.new w [.int .u8 0, .int .u64 0, .int .u64 0, .string ⟨#[]⟩] 61
  have hb := below_alloc w (.cells #[.int .u8 0, .int .u64 0, .int .u64 0, .string ⟨#[]⟩] 61)
  have hpos : (0 : Int) < ((tl.length + 1 : Nat) : Int) := by omega
  have hne0 : (((tl.length + 1 : Nat) : Int) == 0) = false := by simp; omega
  have ht0 := Texts.below ht hb
  obtain ⟨ab, ao, rfl, hc0⟩ := Texts.at_ ht0 (k := 0) (by simp)
  have hc1 : (w.alloc (.cells #[.int .u8 0, .int .u64 0, .int .u64 0, .string ⟨#[]⟩] 61)).cell? ⟨ab, ao, none⟩ = some (.string s0) := hc0
  clear hc0
  go_enter Try.func94, Try.ntmps94
  go_wp2_with fail
  have hyes := refHead_yes s0
  have hlen0 : atL s0.data.toList 18 4 ≤ 16384 := h.len
  obtain ⟨k1, Hk1⟩ := named (s0.data.toList.getD 1 0)
  obtain ⟨n2, Hn2⟩ := named (atL s0.data.toList 2 8)
  obtain ⟨n10, Hn10⟩ := named (atL s0.data.toList 10 8)
  obtain ⟨n18, Hn18⟩ := named (atL s0.data.toList 18 4)
  obtain ⟨n22, Hn22⟩ := named (atL s0.data.toList 22 4)
  unfold headVal at hyes
  rw [← Hk1.out, ← Hn2.out, ← Hn10.out, ← Hn18.out, ← Hn22.out] at hyes
  rw [← Hn18.out] at hlen0
  refine (hyes _ h).mono ?_
  rintro e w2 ⟨rfl, hb2⟩
  have kk := hK.below hb2
  have bb := bt hb hb2
  clear hK hb hb2 hc1 hyes ht0
  have kh := Blk.new w2 [.int .u8 (k1.toNat : Int), .int .u64 (n2 : Int), .int .u64 (n10 : Int), .int .i64 (n18 : Int), .int .u32 (n22 : Int)] 87
  have k5 := kk.alloc (.cells #[.int .u8 (k1.toNat : Int), .int .u64 (n2 : Int), .int .u64 (n10 : Int), .int .i64 (n18 : Int), .int .u32 (n22 : Int)] 87)
  have b5 := bb.alloc bb.size (.cells #[.int .u8 (k1.toNat : Int), .int .u64 (n2 : Int), .int .u64 (n10 : Int), .int .i64 (n18 : Int), .int .u32 (n22 : Int)] 87)
  have hlt5 := kk.lt
  go_wp2_with fail
  obtain ⟨hB, HhB⟩ := named w2.heap.size
  obtain ⟨W3, HW3⟩ := named (w2.alloc (.cells #[.int .u8 (k1.toNat : Int), .int .u64 (n2 : Int), .int .u64 (n10 : Int), .int .i64 (n18 : Int), .int .u32 (n22 : Int)] 87))
  rw [← HhB.out] at kh hlt5 ⊢
  rw [← HW3.out] at kh k5 b5 ⊢
  clear HW3 HhB kk bb
  refine (refPieces_yes n18 _ hlen0).mono ?_
  rintro e w3 ⟨rfl, rfl⟩
  obtain ⟨np, Hnp⟩ := named (piecesN n18)
  rw [← Hnp.out]
  have hnp : np ≤ 269 := by rw [Hnp.out]; unfold piecesN; omega
  have hcc : (((tl.length + 1 : Nat) : Int) != (np : Int) + 1) = false := by rw [Hnp.out, Hn18.out, ← Hcnt.out]; simp
  have htlnp : tl.length = np := by rw [Hnp.out, Hn18.out]; exact Hcnt.out
  have htl9 : tl.length ≤ 269 := by omega
  have Htl := hide htlnp
  clear htlnp
  rw [← Hn18.out, ← Hn22.out] at hfit
  have Hfit := hide hfit
  have hno := hno0
  clear hfit hno0
  go_wp2_with fail
  · go_loopw [8, 42] (fun x i wr => ∃ k : Nat, k ≤ tl.length ∧ i = .int .i64 k ∧ x = .string (str (paid tl n18 k)) ∧ (∀ s ∈ tl.take k, s.size = 64) ∧ (∀ j (hj : j < k) (hjl : j < tl.length), (tl[j]).data.toList = pieceL (paid tl n18 (j + 1)) j) ∧ Below W3.heap.size W3 wr) (fun _ i _ => tl.length - (intOf i).toNat)
    case atStart => exact ⟨0, by omega, rfl, by simp [paid, bytesOf]; rfl, by simp, fun j hj => absurd hj (by omega), Below.refl _ _⟩
    case round =>
      obtain ⟨k, hk, rfl, rfl, hsz, hpc, hb⟩ := hrel
      have t1 := kh.below hb
      have t2 := k5.below hb
      have t3 := bt b5 hb
      have y := t1.cell
      by_cases hlt : k < tl.length
      · exfalso
        omega
      · have hkt : k = tl.length := by omega
        subst hkt
        rw [List.take_length] at hsz
        obtain ⟨P, HP⟩ := named (paid tl n18 tl.length)
        have hPl : P.length ≤ 16384 := by rw [HP.out, paid, List.length_take]; omega
        have hsm := fun u => refsum_w (str P) u (by rw [str_size]; unfold maxLen; omega)
        rw [str_data] at hsm
        rw [← HP.out]
        have hread : readT s0 tl = ⟨k1, n2, n10, P⟩ := by rw [HP.out, paid, List.take_length, readT, Hk1.out, Hn2.out, Hn10.out, Hn18.out]
        obtain ⟨X, HX⟩ := named (str P)
        rw [← HX.out] at hsm ⊢
        have hcrc0 : crcOf P = (more 0#32 P).toNat := rfl
        obtain ⟨cc, hcc2⟩ := named (crcOf P)
        rw [← hcrc0, ← hcc2.out] at hsm
        have Hpc := hide hpc
        clear hpc
        by_cases hcr : cc = n22
        · have hbc : ((cc : Int) != (n22 : Int)) = false := by rw [hcr]; simp
          have Hres := hsome (Hfit.out.2 ⟨hsz, fun k hk => Hpc.out k hk hk, by rw [← HP.out, ← hcc2.out]; exact hcr⟩)
          rw [hread] at Hres
          have hval : frVal ⟨k1, n2, n10, P⟩ = .agg #[.int .u8 (k1.toNat : Int), .int .u64 (n2 : Int), .int .u64 (n10 : Int), .string X] := by rw [HX.out]; rfl
          rw [hval] at Hres
          clear hcr hsz hread hval hno hsome
          go_wp2_with fail
          refine region_flat _ (fun u => Blk u hB [.int .u8 (k1.toNat : Int), .int .u64 (n2 : Int), .int .u64 (n10 : Int), .int .i64 (n18 : Int), .int .u32 (n22 : Int)] 87 ∧ Blk u w.heap.size [.int .u8 0, .int .u64 0, .int .u64 0, .string ⟨#[]⟩] 61 ∧ Below w.heap.size w u) (fun u u' => Below u.heap.size u u')
            (rel [fun v _ => v = .string X,
              fun v _ => v = .int .u32 (cc : Int),
              fun v _ => v = .pointer (some ⟨hB, 4, none⟩),
              fun v _ => v = .int .u32 (n22 : Int),
              fun v _ => v = .bool false])
            (by kernel_rfl) (by kernel_rfl) (fun v => by simp only [putsV, Act.put, List.toList_toArray, List.setIfInBounds_toArray, List.set_cons_zero, List.set_cons_succ, Nat.reduceAdd, Nat.zero_add]; rfl) ?_ ⟨t1, t2, t3.drew⟩ ?_ ?_
          · intro j x u u' hb h
            match j with
            | 0 => exact h
            | 1 => exact h
            | 2 => exact h
            | 3 => exact h
            | 4 => exact h
            | _ + 5 => trivial
          · refine ⟨?_, ?_, ?_, ?_, ?_, trivial⟩
            · intro v u hS hd K' hK
              simp only [waited, List.toList_toArray, Region.binds, rel, List.getD_cons_zero, List.getD_cons_succ, true_imp_iff, and_true] at hd
              simp only [rel, List.getD_cons_zero, List.getD_cons_succ, Act.put, List.setIfInBounds_toArray, List.set_cons_zero, List.set_cons_succ] at hK
              try simp only [hd] at hK
              obtain ⟨hS1, hS2, hS3⟩ := hS
              go_simp
              exact hK.out _ _ ⟨⟨hS1, hS2, hS3⟩, Below.refl _ _, rfl⟩
            · intro v u hS hd K' hK
              simp only [waited, List.toList_toArray, Region.binds, rel, List.getD_cons_zero, List.getD_cons_succ, true_imp_iff, and_true] at hd
              simp only [rel, List.getD_cons_zero, List.getD_cons_succ, Act.put, List.setIfInBounds_toArray, List.set_cons_zero, List.set_cons_succ] at hK
              try simp only [hd] at hK
              obtain ⟨hS1, hS2, hS3⟩ := hS
              go_simp
              refine (hsm _).mono ?_
              rintro e w2 ⟨rfl, rfl⟩
              exact hK.out _ _ ⟨⟨hS1, hS2, hS3⟩, Below.refl _ _, rfl⟩
            · intro v u hS hd K' hK
              simp only [waited, List.toList_toArray, Region.binds, rel, List.getD_cons_zero, List.getD_cons_succ, true_imp_iff, and_true] at hd
              simp only [rel, List.getD_cons_zero, List.getD_cons_succ, Act.put, List.setIfInBounds_toArray, List.set_cons_zero, List.set_cons_succ] at hK
              try simp only [hd] at hK
              obtain ⟨hS1, hS2, hS3⟩ := hS
              go_simp
              exact hK.out _ _ ⟨⟨hS1, hS2, hS3⟩, Below.refl _ _, rfl⟩
            · intro v u hS hd K' hK
              simp only [waited, List.toList_toArray, Region.binds, rel, List.getD_cons_zero, List.getD_cons_succ, true_imp_iff, and_true] at hd
              simp only [rel, List.getD_cons_zero, List.getD_cons_succ, Act.put, List.setIfInBounds_toArray, List.set_cons_zero, List.set_cons_succ] at hK
              try simp only [hd] at hK
              obtain ⟨hS1, hS2, hS3⟩ := hS
              have x0 := hS1.cell
              go_simp
              exact hK.out _ _ ⟨⟨hS1, hS2, hS3⟩, Below.refl _ _, rfl⟩
            · intro v u hS hd K' hK
              simp only [waited, List.toList_toArray, Region.binds, rel, List.getD_cons_zero, List.getD_cons_succ, true_imp_iff, and_true] at hd
              simp only [rel, List.getD_cons_zero, List.getD_cons_succ, Act.put, List.setIfInBounds_toArray, List.set_cons_zero, List.set_cons_succ] at hK
              try simp only [hd] at hK
              obtain ⟨hS1, hS2, hS3⟩ := hS
              go_simp
              exact hK.out _ _ ⟨⟨hS1, hS2, hS3⟩, Below.refl _ _, rfl⟩
          · rintro v u ⟨hS1, hS2, hS3⟩ hR
            simp only [holdAll, List.size_toArray, List.length_cons, List.length_nil, Nat.reduceAdd, rel, List.getD_cons_zero, List.getD_cons_succ] at hR
            obtain ⟨_, h4⟩ := hR
            simp only [h4]
            clear h4 y hsm
            have y := hS1.cell
            have r := hS2.cell
            have z := hS2.free
            go_wp2
            have r0 := r 0
            have r1 := r 1
            have r2 := r 2
            have r3 := r 3
            refine bodyPost_ret (v := .tuple #[.agg #[.int .u8 (k1.toNat : Int), .int .u64 (n2 : Int), .int .u64 (n10 : Int), .string X], .int .i64 0]) (by simp [results, Try.results94, go_sem, r0, r1, r2, r3]) rfl ?_
            exact ⟨by rw [Hres.1, Hres.2], below4' hS3 (Nat.le_refl _) _ _ _ _⟩
        · have hbc : ((cc : Int) != (n22 : Int)) = true := by simp; omega
          have Hres := hno fun hf => hcr (by rw [hcc2.out, HP.out]; exact (Hfit.out.1 hf).2.2)
          clear hcr hsz hread hno hsome
          go_wp2_with fail
          refine region_flat _ (fun u => Blk u hB [.int .u8 (k1.toNat : Int), .int .u64 (n2 : Int), .int .u64 (n10 : Int), .int .i64 (n18 : Int), .int .u32 (n22 : Int)] 87 ∧ Blk u w.heap.size [.int .u8 0, .int .u64 0, .int .u64 0, .string ⟨#[]⟩] 61 ∧ Below w.heap.size w u) (fun u u' => Below u.heap.size u u')
            (rel [fun v _ => v = .string X,
              fun v _ => v = .int .u32 (cc : Int),
              fun v _ => v = .pointer (some ⟨hB, 4, none⟩),
              fun v _ => v = .int .u32 (n22 : Int),
              fun v _ => v = .bool true])
            (by kernel_rfl) (by kernel_rfl) (fun v => by simp only [putsV, Act.put, List.toList_toArray, List.setIfInBounds_toArray, List.set_cons_zero, List.set_cons_succ, Nat.reduceAdd, Nat.zero_add]; rfl) ?_ ⟨t1, t2, t3.drew⟩ ?_ ?_
          · intro j x u u' hb h
            match j with
            | 0 => exact h
            | 1 => exact h
            | 2 => exact h
            | 3 => exact h
            | 4 => exact h
            | _ + 5 => trivial
          · refine ⟨?_, ?_, ?_, ?_, ?_, trivial⟩
            · intro v u hS hd K' hK
              simp only [waited, List.toList_toArray, Region.binds, rel, List.getD_cons_zero, List.getD_cons_succ, true_imp_iff, and_true] at hd
              simp only [rel, List.getD_cons_zero, List.getD_cons_succ, Act.put, List.setIfInBounds_toArray, List.set_cons_zero, List.set_cons_succ] at hK
              try simp only [hd] at hK
              obtain ⟨hS1, hS2, hS3⟩ := hS
              go_simp
              exact hK.out _ _ ⟨⟨hS1, hS2, hS3⟩, Below.refl _ _, rfl⟩
            · intro v u hS hd K' hK
              simp only [waited, List.toList_toArray, Region.binds, rel, List.getD_cons_zero, List.getD_cons_succ, true_imp_iff, and_true] at hd
              simp only [rel, List.getD_cons_zero, List.getD_cons_succ, Act.put, List.setIfInBounds_toArray, List.set_cons_zero, List.set_cons_succ] at hK
              try simp only [hd] at hK
              obtain ⟨hS1, hS2, hS3⟩ := hS
              go_simp
              refine (hsm _).mono ?_
              rintro e w2 ⟨rfl, rfl⟩
              exact hK.out _ _ ⟨⟨hS1, hS2, hS3⟩, Below.refl _ _, rfl⟩
            · intro v u hS hd K' hK
              simp only [waited, List.toList_toArray, Region.binds, rel, List.getD_cons_zero, List.getD_cons_succ, true_imp_iff, and_true] at hd
              simp only [rel, List.getD_cons_zero, List.getD_cons_succ, Act.put, List.setIfInBounds_toArray, List.set_cons_zero, List.set_cons_succ] at hK
              try simp only [hd] at hK
              obtain ⟨hS1, hS2, hS3⟩ := hS
              go_simp
              exact hK.out _ _ ⟨⟨hS1, hS2, hS3⟩, Below.refl _ _, rfl⟩
            · intro v u hS hd K' hK
              simp only [waited, List.toList_toArray, Region.binds, rel, List.getD_cons_zero, List.getD_cons_succ, true_imp_iff, and_true] at hd
              simp only [rel, List.getD_cons_zero, List.getD_cons_succ, Act.put, List.setIfInBounds_toArray, List.set_cons_zero, List.set_cons_succ] at hK
              try simp only [hd] at hK
              obtain ⟨hS1, hS2, hS3⟩ := hS
              have x0 := hS1.cell
              go_simp
              exact hK.out _ _ ⟨⟨hS1, hS2, hS3⟩, Below.refl _ _, rfl⟩
            · intro v u hS hd K' hK
              simp only [waited, List.toList_toArray, Region.binds, rel, List.getD_cons_zero, List.getD_cons_succ, true_imp_iff, and_true] at hd
              simp only [rel, List.getD_cons_zero, List.getD_cons_succ, Act.put, List.setIfInBounds_toArray, List.set_cons_zero, List.set_cons_succ] at hK
              try simp only [hd] at hK
              obtain ⟨hS1, hS2, hS3⟩ := hS
              go_simp
              exact hK.out _ _ ⟨⟨hS1, hS2, hS3⟩, Below.refl _ _, rfl⟩
          · rintro v u ⟨hS1, hS2, hS3⟩ hR
            simp only [holdAll, List.size_toArray, List.length_cons, List.length_nil, Nat.reduceAdd, rel, List.getD_cons_zero, List.getD_cons_succ] at hR
            obtain ⟨_, h4⟩ := hR
            simp only [h4]
            clear h4 y hsm
            have r0 := hS2.cell 0
            have r1 := hS2.cell 1
            have r2 := hS2.cell 2
            have r3 := hS2.cell 3
            have z0 := hS2.free 0
            have z1 := hS2.free 1
            have z2 := hS2.free 2
            have z3 := hS2.free 3
            go_wp2
            refine bodyPost_ret (v := .tuple #[.agg #[.int .u8 0, .int .u64 0, .int .u64 0, .string ⟨#[]⟩], .int .i64 14]) (by simp [results, Try.results94, go_sem, r0, r1, r2, r3]) rfl ?_
            exact ⟨by rw [Hres.1, Hres.2]; rfl, below4' hS3 (Nat.le_refl _) (.int .u8 0) (.int .u64 0) (.int .u64 0) (.string ⟨#[]⟩)⟩
  · go_loopw [8, 42] (fun x i wr => ∃ k : Nat, k ≤ tl.length ∧ i = .int .i64 k ∧ x = .string (str (paid tl n18 k)) ∧ (∀ s ∈ tl.take k, s.size = 64) ∧ (∀ j (hj : j < k) (hjl : j < tl.length), (tl[j]).data.toList = pieceL (paid tl n18 (j + 1)) j) ∧ Below W3.heap.size W3 wr) (fun _ i _ => tl.length - (intOf i).toNat)
    case atStart => exact ⟨0, by omega, rfl, by simp [paid, bytesOf]; rfl, by simp, fun j hj => absurd hj (by omega), Below.refl _ _⟩
    case round =>
      obtain ⟨k, hk, rfl, rfl, hsz, hpc, hb⟩ := hrel
      have t1 := kh.below hb
      have t2 := k5.below hb
      have t3 := bt b5 hb
      have y := t1.cell
      by_cases hlt : k < tl.length
      · obtain ⟨b', o', e', hcx⟩ := Texts.at_ (Texts.below ht t3) (k := k + 1) (by simp; omega)
        cases e'
        rw [List.getElem_cons_succ] at hcx
        have hcell : wr.cell? ⟨ab, ao + 1 + k, none⟩ = some (.string tl[k]) := by
          rw [show ao + 1 + k = ao + (k + 1) by omega]
          exact hcx
        clear hcx
        have hmem : tl[k] ∈ tl := List.getElem_mem hlt
        have h61 : 61 * k < n18 := (pieces_lt n18 k).1 (by rw [← Hnp.out, ← Htl.out]; exact hlt)
        have hkb : k ≤ 268 := by omega
        obtain ⟨x, Hx⟩ := named tl[k]
        rw [← Hx.out] at hcell
        obtain ⟨q, hq⟩ := named (61 * k)
        obtain ⟨d, hd⟩ := named (n18 - 61 * k)
        have hmul : (k : Int) * 61 = (q : Int) := by rw [hq.out]; omega
        have hwq : IntKind.i64.wrap (q : Int) = (q : Int) := wrap_i64_nat' q (by rw [hq.out]; omega)
        have hmul1 : IntKind.i64.wrap ((k : Int) * 61) = (q : Int) := by rw [hmul]; exact hwq
        have hsub : (n18 : Int) - (q : Int) = (d : Int) := by rw [hq.out, hd.out]; omega
        have hwd : IntKind.i64.wrap (d : Int) = (d : Int) := wrap_i64_nat' d (by rw [hd.out]; omega)
        have hdpos : 0 < d := by rw [hd.out]; omega
        have hd16 : d ≤ 16384 := by rw [hd.out]; omega
        have hsz' : ∀ hs : x.size = 64, ∀ s ∈ tl.take (k + 1), s.size = 64 := fun hs s hs' => by
          rw [List.take_succ_eq_append_getElem hlt] at hs'
          rcases List.mem_append.1 hs' with h' | h'
          · exact hsz s h'
          · rw [List.mem_singleton.1 h', ← Hx.out]; exact hs
        have hstep : ∀ hs : x.size = 64, paid tl n18 (k + 1) = paid tl n18 k ++ (x.data.toList.drop 3).take (min 61 d) := fun hs => by
          rw [paid_step hlt (hsz' hs) h61, ← Hx.out, hd.out]
        have hplen : (paid tl n18 k).length = 61 * k := by rw [paid_len (by omega) hsz]; omega
        obtain ⟨PK, HPK⟩ := named (str (paid tl n18 k))
        have hPKz : PK.size = 61 * k := by rw [HPK.out, str_size, hplen]
        rw [← HPK.out]
        have hp1 : ∀ hs : x.size = 64, (paid tl n18 (k + 1)).length = 61 * k + min 61 d := fun hs => by
          rw [hstep hs, List.length_append, hplen, List.length_take, List.length_drop, show x.data.toList.length = x.size from rfl, hs]
          omega
        have hpiece : ∀ hs : x.size = 64, ∀ u, Calls Try.prog 64 #[.string (str (paid tl n18 (k + 1))), .int .i64 (k : Int)] u fun e w' => e = .returned (.string (str (pieceL (paid tl n18 (k + 1)) k))) ∧ Below u.heap.size u w' := fun hs u => by
          have := refPiece_w (str (paid tl n18 (k + 1))) k u (by rw [str_size, hp1 hs]; exact (pieces_lt _ _).2 (by omega)) (by rw [str_size, hp1 hs]; rw [hd.out]; omega)
          rw [str_data] at this
          exact this
        obtain ⟨PN, HPN⟩ := named (str (paid tl n18 (k + 1)))
        rw [← HPN.out] at hpiece
        obtain ⟨QN, HQN⟩ := named (str (pieceL (paid tl n18 (k + 1)) k))
        rw [← HQN.out] at hpiece
        have hQx : QN.toList = x.toList ↔ x.data.toList = pieceL (paid tl n18 (k + 1)) k := by
          rw [HQN.out, str_toList, ByteArray.toList_eq]
          exact ⟨fun h => h.symm, fun h => h.symm⟩
        have Hsz' := hide hsz'
        have Hpc := hide hpc
        have HQx := hide hQx
        have Hpiece := hide hpiece
        have hbadsz : x.size ≠ 64 → joinV s0 tl = zeroFrame ∧ joinE s0 tl = 14 := fun hs => hno fun hf => hs (by rw [Hx.out]; exact hf.1 _ hmem)
        have hbadpc : x.data.toList ≠ pieceL (paid tl n18 (k + 1)) k → joinV s0 tl = zeroFrame ∧ joinE s0 tl = 14 := fun hne => hno fun hf => hne (by rw [Hx.out]; exact (Hfit.out.1 hf).2.1 k hlt)
        clear hsz' hsz hpc hpiece hQx hno hsome hp1 hplen
        rcases Nat.lt_or_ge 61 d with hdd | hdd
        · have hmm : min 61 d = 61 := by omega
          rw [hmm] at hstep
          have hgt : (61 : Int) < (d : Int) := by omega
          by_cases hs : x.size = 64
          · have hs1 : ((x.size : Int) != 64) = false := by rw [hs]; rfl
            have hex : x.extract 3 (3 + 61) = str ((x.data.toList.drop 3).take 61) := by
              rw [extract_str, show 3 + 61 - 3 = 61 by omega]
            have hPN : PK ++ str ((x.data.toList.drop 3).take 61) = PN := by rw [HPN.out, hstep hs, HPK.out, str_append]
            obtain ⟨YY, HYY⟩ := named (str ((x.data.toList.drop 3).take 61))
            rw [← HYY.out] at hex hPN
            have hYz : YY.size ≤ 61 := by rw [HYY.out, str_size, List.length_take, List.length_drop, show x.data.toList.length = x.size from rfl, hs]; omega
            have hadd : ∀ w', (Op.stringOp .add PK YY).run Try.prog w' = .ok (.string PN) w' := fun w' => by rw [← hPN]; exact run_string_add_sum w' _ _ (by omega)
            have h3a : (3 : Int) ≤ 3 + (61 : Int) := by omega
            have h3b : 3 + (61 : Int) ≤ (x.size : Int) := by rw [hs]; omega
            have h3n : (3 + (61 : Int)).toNat = 3 + 61 := by omega
            have hpc1 := Hpiece.out hs
            have Hs := hide hs
            clear hs hYz hPN HYY hstep hmm
            go_wp2_with fail
            refine (hpc1 _).mono ?_
            rintro e w6 ⟨rfl, hb6⟩
            have v2 := t2.below hb6
            have v3 := bt t3 hb6
            clear hpc1 hex hadd h3a h3b h3n
            by_cases hpq : x.data.toList = pieceL (paid tl n18 (k + 1)) k
            · have hbq : (QN.toList == x.toList) = true := by rw [HQx.out.2 hpq]; simp
              have Hpq := hide hpq
              clear hpq y
              go_wp2
              go_roundw
              case rel => exact ⟨k + 1, by omega, by go_num, by rw [HPN.out], Hsz'.out Hs.out, fun j hj hjl => by
                rcases Nat.lt_or_ge j k with h' | h'
                · exact Hpc.out j h' hjl
                · obtain rfl : j = k := by omega
                  rw [← Hx.out]; exact Hpq.out, bt hb hb6⟩
              case measure => simp [intOf]; omega
            · have hbq : (QN.toList == x.toList) = false := beq_false_of_ne fun e => hpq (HQx.out.1 e)
              have Hres := hbadpc hpq
              clear hpq y
              have r0 := v2.cell 0
              have r1 := v2.cell 1
              have r2 := v2.cell 2
              have r3 := v2.cell 3
              have z0 := v2.free 0
              have z1 := v2.free 1
              have z2 := v2.free 2
              have z3 := v2.free 3
              go_wp2
              refine bodyPost_ret (v := .tuple #[.agg #[.int .u8 0, .int .u64 0, .int .u64 0, .string ⟨#[]⟩], .int .i64 14]) (by simp [results, Try.results94, go_sem, r0, r1, r2, r3]) rfl ?_
              exact ⟨by rw [Hres.1, Hres.2]; rfl, below4' v3 (Nat.le_refl _) (.int .u8 0) (.int .u64 0) (.int .u64 0) (.string ⟨#[]⟩)⟩
          · have hs1 : ((x.size : Int) != 64) = true := by simp; omega
            have Hres := hbadsz hs
            clear hs hstep hmm
            have r0 := t2.cell 0
            have r1 := t2.cell 1
            have r2 := t2.cell 2
            have r3 := t2.cell 3
            have z0 := t2.free 0
            have z1 := t2.free 1
            have z2 := t2.free 2
            have z3 := t2.free 3
            go_wp2
            refine bodyPost_ret (v := .tuple #[.agg #[.int .u8 0, .int .u64 0, .int .u64 0, .string ⟨#[]⟩], .int .i64 14]) (by simp [results, Try.results94, go_sem, r0, r1, r2, r3]) rfl ?_
            exact ⟨by rw [Hres.1, Hres.2]; rfl, below4' t3 (Nat.le_refl _) (.int .u8 0) (.int .u64 0) (.int .u64 0) (.string ⟨#[]⟩)⟩
        · have hmm : min 61 d = d := by omega
          rw [hmm] at hstep
          have hgt : (d : Int) ≤ 61 := by omega
          by_cases hs : x.size = 64
          · have hs1 : ((x.size : Int) != 64) = false := by rw [hs]; rfl
            have hex : x.extract 3 (3 + d) = str ((x.data.toList.drop 3).take d) := by
              rw [extract_str, show 3 + d - 3 = d by omega]
            have hPN : PK ++ str ((x.data.toList.drop 3).take d) = PN := by rw [HPN.out, hstep hs, HPK.out, str_append]
            obtain ⟨YY, HYY⟩ := named (str ((x.data.toList.drop 3).take d))
            rw [← HYY.out] at hex hPN
            have hYz : YY.size ≤ 61 := by rw [HYY.out, str_size, List.length_take, List.length_drop, show x.data.toList.length = x.size from rfl, hs]; omega
            have hadd : ∀ w', (Op.stringOp .add PK YY).run Try.prog w' = .ok (.string PN) w' := fun w' => by rw [← hPN]; exact run_string_add_sum w' _ _ (by omega)
            have h3a : (3 : Int) ≤ 3 + (d : Int) := by omega
            have h3b : 3 + (d : Int) ≤ (x.size : Int) := by rw [hs]; omega
            have h3n : (3 + (d : Int)).toNat = 3 + d := by omega
            have hpc1 := Hpiece.out hs
            have Hs := hide hs
            clear hs hYz hPN HYY hstep hmm
            go_wp2_with fail
            refine (hpc1 _).mono ?_
            rintro e w6 ⟨rfl, hb6⟩
            have v2 := t2.below hb6
            have v3 := bt t3 hb6
            clear hpc1 hex hadd h3a h3b h3n
            by_cases hpq : x.data.toList = pieceL (paid tl n18 (k + 1)) k
            · have hbq : (QN.toList == x.toList) = true := by rw [HQx.out.2 hpq]; simp
              have Hpq := hide hpq
              clear hpq y
              go_wp2
              go_roundw
              case rel => exact ⟨k + 1, by omega, by go_num, by rw [HPN.out], Hsz'.out Hs.out, fun j hj hjl => by
                rcases Nat.lt_or_ge j k with h' | h'
                · exact Hpc.out j h' hjl
                · obtain rfl : j = k := by omega
                  rw [← Hx.out]; exact Hpq.out, bt hb hb6⟩
              case measure => simp [intOf]; omega
            · have hbq : (QN.toList == x.toList) = false := beq_false_of_ne fun e => hpq (HQx.out.1 e)
              have Hres := hbadpc hpq
              clear hpq y
              have r0 := v2.cell 0
              have r1 := v2.cell 1
              have r2 := v2.cell 2
              have r3 := v2.cell 3
              have z0 := v2.free 0
              have z1 := v2.free 1
              have z2 := v2.free 2
              have z3 := v2.free 3
              go_wp2
              refine bodyPost_ret (v := .tuple #[.agg #[.int .u8 0, .int .u64 0, .int .u64 0, .string ⟨#[]⟩], .int .i64 14]) (by simp [results, Try.results94, go_sem, r0, r1, r2, r3]) rfl ?_
              exact ⟨by rw [Hres.1, Hres.2]; rfl, below4' v3 (Nat.le_refl _) (.int .u8 0) (.int .u64 0) (.int .u64 0) (.string ⟨#[]⟩)⟩
          · have hs1 : ((x.size : Int) != 64) = true := by simp; omega
            have Hres := hbadsz hs
            clear hs hstep hmm
            have r0 := t2.cell 0
            have r1 := t2.cell 1
            have r2 := t2.cell 2
            have r3 := t2.cell 3
            have z0 := t2.free 0
            have z1 := t2.free 1
            have z2 := t2.free 2
            have z3 := t2.free 3
            go_wp2
            refine bodyPost_ret (v := .tuple #[.agg #[.int .u8 0, .int .u64 0, .int .u64 0, .string ⟨#[]⟩], .int .i64 14]) (by simp [results, Try.results94, go_sem, r0, r1, r2, r3]) rfl ?_
            exact ⟨by rw [Hres.1, Hres.2]; rfl, below4' t3 (Nat.le_refl _) (.int .u8 0) (.int .u64 0) (.int .u64 0) (.string ⟨#[]⟩)⟩
      · have hkt : k = tl.length := by omega
        subst hkt
        rw [List.take_length] at hsz
        obtain ⟨P, HP⟩ := named (paid tl n18 tl.length)
        have hPl : P.length ≤ 16384 := by rw [HP.out, paid, List.length_take]; omega
        have hsm := fun u => refsum_w (str P) u (by rw [str_size]; unfold maxLen; omega)
        rw [str_data] at hsm
        rw [← HP.out]
        have hread : readT s0 tl = ⟨k1, n2, n10, P⟩ := by rw [HP.out, paid, List.take_length, readT, Hk1.out, Hn2.out, Hn10.out, Hn18.out]
        obtain ⟨X, HX⟩ := named (str P)
        rw [← HX.out] at hsm ⊢
        have hcrc0 : crcOf P = (more 0#32 P).toNat := rfl
        obtain ⟨cc, hcc2⟩ := named (crcOf P)
        rw [← hcrc0, ← hcc2.out] at hsm
        have Hpc := hide hpc
        clear hpc
        by_cases hcr : cc = n22
        · have hbc : ((cc : Int) != (n22 : Int)) = false := by rw [hcr]; simp
          have Hres := hsome (Hfit.out.2 ⟨hsz, fun k hk => Hpc.out k hk hk, by rw [← HP.out, ← hcc2.out]; exact hcr⟩)
          rw [hread] at Hres
          have hval : frVal ⟨k1, n2, n10, P⟩ = .agg #[.int .u8 (k1.toNat : Int), .int .u64 (n2 : Int), .int .u64 (n10 : Int), .string X] := by rw [HX.out]; rfl
          rw [hval] at Hres
          clear hcr hsz hread hval hno hsome
          go_wp2_with fail
          refine region_flat _ (fun u => Blk u hB [.int .u8 (k1.toNat : Int), .int .u64 (n2 : Int), .int .u64 (n10 : Int), .int .i64 (n18 : Int), .int .u32 (n22 : Int)] 87 ∧ Blk u w.heap.size [.int .u8 0, .int .u64 0, .int .u64 0, .string ⟨#[]⟩] 61 ∧ Below w.heap.size w u) (fun u u' => Below u.heap.size u u')
            (rel [fun v _ => v = .string X,
              fun v _ => v = .int .u32 (cc : Int),
              fun v _ => v = .pointer (some ⟨hB, 4, none⟩),
              fun v _ => v = .int .u32 (n22 : Int),
              fun v _ => v = .bool false])
            (by kernel_rfl) (by kernel_rfl) (fun v => by simp only [putsV, Act.put, List.toList_toArray, List.setIfInBounds_toArray, List.set_cons_zero, List.set_cons_succ, Nat.reduceAdd, Nat.zero_add]; rfl) ?_ ⟨t1, t2, t3.drew⟩ ?_ ?_
          · intro j x u u' hb h
            match j with
            | 0 => exact h
            | 1 => exact h
            | 2 => exact h
            | 3 => exact h
            | 4 => exact h
            | _ + 5 => trivial
          · refine ⟨?_, ?_, ?_, ?_, ?_, trivial⟩
            · intro v u hS hd K' hK
              simp only [waited, List.toList_toArray, Region.binds, rel, List.getD_cons_zero, List.getD_cons_succ, true_imp_iff, and_true] at hd
              simp only [rel, List.getD_cons_zero, List.getD_cons_succ, Act.put, List.setIfInBounds_toArray, List.set_cons_zero, List.set_cons_succ] at hK
              try simp only [hd] at hK
              obtain ⟨hS1, hS2, hS3⟩ := hS
              go_simp
              exact hK.out _ _ ⟨⟨hS1, hS2, hS3⟩, Below.refl _ _, rfl⟩
            · intro v u hS hd K' hK
              simp only [waited, List.toList_toArray, Region.binds, rel, List.getD_cons_zero, List.getD_cons_succ, true_imp_iff, and_true] at hd
              simp only [rel, List.getD_cons_zero, List.getD_cons_succ, Act.put, List.setIfInBounds_toArray, List.set_cons_zero, List.set_cons_succ] at hK
              try simp only [hd] at hK
              obtain ⟨hS1, hS2, hS3⟩ := hS
              go_simp
              refine (hsm _).mono ?_
              rintro e w2 ⟨rfl, rfl⟩
              exact hK.out _ _ ⟨⟨hS1, hS2, hS3⟩, Below.refl _ _, rfl⟩
            · intro v u hS hd K' hK
              simp only [waited, List.toList_toArray, Region.binds, rel, List.getD_cons_zero, List.getD_cons_succ, true_imp_iff, and_true] at hd
              simp only [rel, List.getD_cons_zero, List.getD_cons_succ, Act.put, List.setIfInBounds_toArray, List.set_cons_zero, List.set_cons_succ] at hK
              try simp only [hd] at hK
              obtain ⟨hS1, hS2, hS3⟩ := hS
              go_simp
              exact hK.out _ _ ⟨⟨hS1, hS2, hS3⟩, Below.refl _ _, rfl⟩
            · intro v u hS hd K' hK
              simp only [waited, List.toList_toArray, Region.binds, rel, List.getD_cons_zero, List.getD_cons_succ, true_imp_iff, and_true] at hd
              simp only [rel, List.getD_cons_zero, List.getD_cons_succ, Act.put, List.setIfInBounds_toArray, List.set_cons_zero, List.set_cons_succ] at hK
              try simp only [hd] at hK
              obtain ⟨hS1, hS2, hS3⟩ := hS
              have x0 := hS1.cell
              go_simp
              exact hK.out _ _ ⟨⟨hS1, hS2, hS3⟩, Below.refl _ _, rfl⟩
            · intro v u hS hd K' hK
              simp only [waited, List.toList_toArray, Region.binds, rel, List.getD_cons_zero, List.getD_cons_succ, true_imp_iff, and_true] at hd
              simp only [rel, List.getD_cons_zero, List.getD_cons_succ, Act.put, List.setIfInBounds_toArray, List.set_cons_zero, List.set_cons_succ] at hK
              try simp only [hd] at hK
              obtain ⟨hS1, hS2, hS3⟩ := hS
              go_simp
              exact hK.out _ _ ⟨⟨hS1, hS2, hS3⟩, Below.refl _ _, rfl⟩
          · rintro v u ⟨hS1, hS2, hS3⟩ hR
            simp only [holdAll, List.size_toArray, List.length_cons, List.length_nil, Nat.reduceAdd, rel, List.getD_cons_zero, List.getD_cons_succ] at hR
            obtain ⟨_, h4⟩ := hR
            simp only [h4]
            clear h4 y hsm
            have y := hS1.cell
            have r := hS2.cell
            have z := hS2.free
            go_wp2
            have r0 := r 0
            have r1 := r 1
            have r2 := r 2
            have r3 := r 3
            refine bodyPost_ret (v := .tuple #[.agg #[.int .u8 (k1.toNat : Int), .int .u64 (n2 : Int), .int .u64 (n10 : Int), .string X], .int .i64 0]) (by simp [results, Try.results94, go_sem, r0, r1, r2, r3]) rfl ?_
            exact ⟨by rw [Hres.1, Hres.2], below4' hS3 (Nat.le_refl _) _ _ _ _⟩
        · have hbc : ((cc : Int) != (n22 : Int)) = true := by simp; omega
          have Hres := hno fun hf => hcr (by rw [hcc2.out, HP.out]; exact (Hfit.out.1 hf).2.2)
          clear hcr hsz hread hno hsome
          go_wp2_with fail
          refine region_flat _ (fun u => Blk u hB [.int .u8 (k1.toNat : Int), .int .u64 (n2 : Int), .int .u64 (n10 : Int), .int .i64 (n18 : Int), .int .u32 (n22 : Int)] 87 ∧ Blk u w.heap.size [.int .u8 0, .int .u64 0, .int .u64 0, .string ⟨#[]⟩] 61 ∧ Below w.heap.size w u) (fun u u' => Below u.heap.size u u')
            (rel [fun v _ => v = .string X,
              fun v _ => v = .int .u32 (cc : Int),
              fun v _ => v = .pointer (some ⟨hB, 4, none⟩),
              fun v _ => v = .int .u32 (n22 : Int),
              fun v _ => v = .bool true])
            (by kernel_rfl) (by kernel_rfl) (fun v => by simp only [putsV, Act.put, List.toList_toArray, List.setIfInBounds_toArray, List.set_cons_zero, List.set_cons_succ, Nat.reduceAdd, Nat.zero_add]; rfl) ?_ ⟨t1, t2, t3.drew⟩ ?_ ?_
          · intro j x u u' hb h
            match j with
            | 0 => exact h
            | 1 => exact h
            | 2 => exact h
            | 3 => exact h
            | 4 => exact h
            | _ + 5 => trivial
          · refine ⟨?_, ?_, ?_, ?_, ?_, trivial⟩
            · intro v u hS hd K' hK
              simp only [waited, List.toList_toArray, Region.binds, rel, List.getD_cons_zero, List.getD_cons_succ, true_imp_iff, and_true] at hd
              simp only [rel, List.getD_cons_zero, List.getD_cons_succ, Act.put, List.setIfInBounds_toArray, List.set_cons_zero, List.set_cons_succ] at hK
              try simp only [hd] at hK
              obtain ⟨hS1, hS2, hS3⟩ := hS
              go_simp
              exact hK.out _ _ ⟨⟨hS1, hS2, hS3⟩, Below.refl _ _, rfl⟩
            · intro v u hS hd K' hK
              simp only [waited, List.toList_toArray, Region.binds, rel, List.getD_cons_zero, List.getD_cons_succ, true_imp_iff, and_true] at hd
              simp only [rel, List.getD_cons_zero, List.getD_cons_succ, Act.put, List.setIfInBounds_toArray, List.set_cons_zero, List.set_cons_succ] at hK
              try simp only [hd] at hK
              obtain ⟨hS1, hS2, hS3⟩ := hS
              go_simp
              refine (hsm _).mono ?_
              rintro e w2 ⟨rfl, rfl⟩
              exact hK.out _ _ ⟨⟨hS1, hS2, hS3⟩, Below.refl _ _, rfl⟩
            · intro v u hS hd K' hK
              simp only [waited, List.toList_toArray, Region.binds, rel, List.getD_cons_zero, List.getD_cons_succ, true_imp_iff, and_true] at hd
              simp only [rel, List.getD_cons_zero, List.getD_cons_succ, Act.put, List.setIfInBounds_toArray, List.set_cons_zero, List.set_cons_succ] at hK
              try simp only [hd] at hK
              obtain ⟨hS1, hS2, hS3⟩ := hS
              go_simp
              exact hK.out _ _ ⟨⟨hS1, hS2, hS3⟩, Below.refl _ _, rfl⟩
            · intro v u hS hd K' hK
              simp only [waited, List.toList_toArray, Region.binds, rel, List.getD_cons_zero, List.getD_cons_succ, true_imp_iff, and_true] at hd
              simp only [rel, List.getD_cons_zero, List.getD_cons_succ, Act.put, List.setIfInBounds_toArray, List.set_cons_zero, List.set_cons_succ] at hK
              try simp only [hd] at hK
              obtain ⟨hS1, hS2, hS3⟩ := hS
              have x0 := hS1.cell
              go_simp
              exact hK.out _ _ ⟨⟨hS1, hS2, hS3⟩, Below.refl _ _, rfl⟩
            · intro v u hS hd K' hK
              simp only [waited, List.toList_toArray, Region.binds, rel, List.getD_cons_zero, List.getD_cons_succ, true_imp_iff, and_true] at hd
              simp only [rel, List.getD_cons_zero, List.getD_cons_succ, Act.put, List.setIfInBounds_toArray, List.set_cons_zero, List.set_cons_succ] at hK
              try simp only [hd] at hK
              obtain ⟨hS1, hS2, hS3⟩ := hS
              go_simp
              exact hK.out _ _ ⟨⟨hS1, hS2, hS3⟩, Below.refl _ _, rfl⟩
          · rintro v u ⟨hS1, hS2, hS3⟩ hR
            simp only [holdAll, List.size_toArray, List.length_cons, List.length_nil, Nat.reduceAdd, rel, List.getD_cons_zero, List.getD_cons_succ] at hR
            obtain ⟨_, h4⟩ := hR
            simp only [h4]
            clear h4 y hsm
            have r0 := hS2.cell 0
            have r1 := hS2.cell 1
            have r2 := hS2.cell 2
            have r3 := hS2.cell 3
            have z0 := hS2.free 0
            have z1 := hS2.free 1
            have z2 := hS2.free 2
            have z3 := hS2.free 3
            go_wp2
            refine bodyPost_ret (v := .tuple #[.agg #[.int .u8 0, .int .u64 0, .int .u64 0, .string ⟨#[]⟩], .int .i64 14]) (by simp [results, Try.results94, go_sem, r0, r1, r2, r3]) rfl ?_
            exact ⟨by rw [Hres.1, Hres.2]; rfl, below4' hS3 (Nat.le_refl _) (.int .u8 0) (.int .u64 0) (.int .u64 0) (.string ⟨#[]⟩)⟩
theorem refJoin_yes (A : Option Addr) (c n : Nat) (f : Fr) (w : World) (h : FrOk f) (hn : n = piecesN f.pay.length + 1) (hc : n ≤ c) (ht : Texts w A ((sectorsL f).map str)) :
    Calls Try.prog 94 #[.slice A n c] w fun e w' => e = .returned (.tuple #[frVal f, .int .i64 0]) ∧ Below w.heap.size w w' := by
  rw [sectors_cons] at ht
  have hl : (((List.range (piecesN f.pay.length)).map (pieceL f.pay)).map str).length = piecesN f.pay.length := by simp
  have hp : piecesN f.pay.length ≤ 269 := by have := h.pay; unfold piecesN; omega
  have := refJoin_w A c (str (frHead f)) _ w (by rw [hl, ← hn]; exact hc) ht (by rw [hl]; omega) (head_ok f h) (count_ok f h)
  rw [hl, ← hn, (join_some _ _ (fit_back f h)).1, (join_some _ _ (fit_back f h)).2, read_back f h] at this
  exact this
theorem refJoin_no (A : Option Addr) (c n : Nat) (l : List ByteArray) (w : World) (h : NoFrame l) (hn : n = l.length) (hb : l.length ≤ 140737488351232) (hc : n ≤ c) (ht : Texts w A l) :
    Calls Try.prog 94 #[.slice A n c] w fun e w' => e = .returned (.tuple #[zeroFrame, .int .i64 14]) ∧ Below w.heap.size w w' := by
  subst hn
  cases l with
  | nil => exact refJoin_empty A c w
  | cons s0 tl =>
    simp only [List.length_cons] at hb hc ⊢
    by_cases hH : HeadOk s0.data.toList
    case neg => exact refJoin_badhead A c s0 tl w ht (by omega) hH
    by_cases hC : tl.length = piecesN (atL s0.data.toList 18 4)
    case neg => exact refJoin_count A c s0 tl w ht (by omega) hH hC
    have hnf : ¬ JoinFit s0 tl := fun hf => by
      refine h (readT s0 tl) ⟨hH.kind, ?_, ?_, ?_⟩ hf.2
      · show ((bytesOf tl).take _).length ≤ 16384
        rw [List.length_take]
        have := hH.len
        omega
      · exact getL_le _ (by rw [List.length_take]; omega)
      · exact getL_le _ (by rw [List.length_take]; omega)
    have := refJoin_w A c s0 tl w hc ht (by omega) hH hC
    unfold joinV joinE at this
    rw [if_neg hnf, if_neg hnf] at this
    exact this
end Go.Proofs.Ytpfbmmeipojodaa
