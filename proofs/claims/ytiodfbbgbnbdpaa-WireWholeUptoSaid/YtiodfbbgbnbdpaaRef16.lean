/- The document's answer on a change: right, Text. -/
import Derived.Test.YtiodfbbgbnbdpaaPack
import Derived.Test.YtiodfbbgbnbdpaaGI
namespace Go.Proofs.Ytiodfbbgbnbdpaa
set_option linter.unusedSimpArgs false
set_option linter.unusedVariables false
open Go.RowKit
open Crc
set_option maxRecDepth 100000 in
set_option maxHeartbeats 600000 in
theorem refText_w (s : ByteArray) (w : World) (hs : s.size < 4294967296) :
    Calls Try.prog 24 #[.string s] w fun e w' => e = .returned (.string (str (txt s))) ∧ Below w.heap.size w w' := by
  have hp := fun W => refput32_w s.size W hs
  have hw : IntKind.u32.wrap (s.size : Int) = (s.size : Int) := wrap_u32_nat _ hs
  have he : str (putL s.size 4) ++ s = str (txt s) := by
    have := str_append (putL s.size 4) s.data.toList
    rw [str_of] at this
    exact this
  obtain ⟨S, HS⟩ := named (str (putL s.size 4))
  obtain ⟨R, HR⟩ := named (str (txt s))
  simp only [← HS.out] at hp
  rw [← HS.out, ← HR.out] at he
  have hz : S.size = 4 := by rw [HS.out, str_size, putL_length]
  have hadd : ∀ W : World, (Op.stringOp .add S s).run Try.prog W = .ok (.string R) W := fun W => by rw [← he]; exact run_string_add_sum W S s (by omega)
  rw [← HR.out]
  clear HS HR he hz
  go_enter Try.func24, Try.ntmps24
  go_wp2_with fail
  refine (hp _).mono ?_
  rintro e w1 ⟨rfl, hb1⟩
  go_wp2
  go_ret
  exact ⟨rfl, hb1⟩
theorem e0_list : e0.toList = [] := by rw [ByteArray.toList_eq]; rfl
theorem list_nil (s : ByteArray) : (s.toList = []) = (s = e0) := propext ⟨fun h => (text_iff s e0).1 (h.trans e0_list.symm), fun h => by rw [h, e0_list]⟩
theorem empty_iff (s : ByteArray) : (s.toList == []) = decide (s = e0) := by
  have h := list_nil s
  by_cases hc : s = e0
  · rw [decide_eq_true hc, hc, e0_list]; rfl
  · rw [decide_eq_false hc]
    have : ¬ s.toList = [] := by rw [h]; exact hc
    simpa using this
theorem uid_eq (ut ui : ByteArray) (W : World) : (binOp .eql 26 (.agg #[.string ut, .string ui]) (.agg #[.string ⟨#[]⟩, .string ⟨#[]⟩])).run Try.prog W = .ok (.bool (decide (ut = e0 ∧ ui = e0))) W := by
  have h1 := list_nil ut
  have h2 := list_nil ui
  simp [go_sem, h1, h2]
  by_cases c1 : ut = e0
  · by_cases c2 : ui = e0 <;> simp [c1, c2]
  · simp [c1]
theorem chRight_1 (id tx ut ui : ByteArray) : chRight ⟨1, id, tx, ut, ui⟩ = (decide (id = e0) && decide (ut = e0 ∧ ui = e0)) := by
  simp [chRight, chBare]
set_option maxRecDepth 100000 in
set_option maxHeartbeats 2000000 in
theorem refRight_1 (id tx ut ui : ByteArray) (w : World) :
    Calls Try.prog 35 #[.agg #[.int .u8 1, .string id, .string tx, .string ut, .string ui]] w fun e w' => e = .returned (.bool (chRight ⟨1, id, tx, ut, ui⟩)) ∧ Below w.heap.size w w' := by
  rw [chRight_1]
  have hk := Blk.new w [.int .u8 1, .string id, .string tx, .string ut, .string ui] 28
  have hb := below_alloc w (.cells #[.int .u8 1, .string id, .string tx, .string ut, .string ui] 28)
  have xk := hk.cell
  have hI := empty_iff id
  obtain ⟨qI, hqI⟩ := named (decide (id = e0))
  rw [← hqI.out] at hI ⊢
  clear hqI
  have hU := uid_eq ut ui
  obtain ⟨qU, hqU⟩ := named (decide (ut = e0 ∧ ui = e0))
  rw [← hqU.out]
  simp only [← hqU.out] at hU
  clear hqU
  cases qI with
  | true =>
    cases qU with
    | true =>
      go_enter Try.func35, Try.ntmps35
      go_wp2
      go_ret
      exact ⟨rfl, hb⟩
    | false =>
      go_enter Try.func35, Try.ntmps35
      go_wp2
      go_ret
      exact ⟨rfl, hb⟩
  | false =>
    cases qU with
    | true =>
      go_enter Try.func35, Try.ntmps35
      go_wp2
      go_ret
      exact ⟨rfl, hb⟩
    | false =>
      go_enter Try.func35, Try.ntmps35
      go_wp2
      go_ret
      exact ⟨rfl, hb⟩
theorem chRight_2 (id tx ut ui : ByteArray) : chRight ⟨2, id, tx, ut, ui⟩ = (decide (ut = e0 ∧ ui = e0)) := by
  simp [chRight, chBare]
set_option maxRecDepth 100000 in
set_option maxHeartbeats 2000000 in
theorem refRight_2 (id tx ut ui : ByteArray) (w : World) :
    Calls Try.prog 35 #[.agg #[.int .u8 2, .string id, .string tx, .string ut, .string ui]] w fun e w' => e = .returned (.bool (chRight ⟨2, id, tx, ut, ui⟩)) ∧ Below w.heap.size w w' := by
  rw [chRight_2]
  have hk := Blk.new w [.int .u8 2, .string id, .string tx, .string ut, .string ui] 28
  have hb := below_alloc w (.cells #[.int .u8 2, .string id, .string tx, .string ut, .string ui] 28)
  have xk := hk.cell
  have hU := uid_eq ut ui
  obtain ⟨qU, hqU⟩ := named (decide (ut = e0 ∧ ui = e0))
  rw [← hqU.out]
  simp only [← hqU.out] at hU
  clear hqU
  cases qU with
  | true =>
    go_enter Try.func35, Try.ntmps35
    go_wp2
    go_ret
    exact ⟨rfl, hb⟩
  | false =>
    go_enter Try.func35, Try.ntmps35
    go_wp2
    go_ret
    exact ⟨rfl, hb⟩
theorem chRight_3 (id tx ut ui : ByteArray) : chRight ⟨3, id, tx, ut, ui⟩ = (decide (tx = e0) && decide (ut = e0 ∧ ui = e0)) := by
  simp [chRight, chBare]
set_option maxRecDepth 100000 in
set_option maxHeartbeats 2000000 in
theorem refRight_3 (id tx ut ui : ByteArray) (w : World) :
    Calls Try.prog 35 #[.agg #[.int .u8 3, .string id, .string tx, .string ut, .string ui]] w fun e w' => e = .returned (.bool (chRight ⟨3, id, tx, ut, ui⟩)) ∧ Below w.heap.size w w' := by
  rw [chRight_3]
  have hk := Blk.new w [.int .u8 3, .string id, .string tx, .string ut, .string ui] 28
  have hb := below_alloc w (.cells #[.int .u8 3, .string id, .string tx, .string ut, .string ui] 28)
  have xk := hk.cell
  have hX := empty_iff tx
  obtain ⟨qX, hqX⟩ := named (decide (tx = e0))
  rw [← hqX.out] at hX ⊢
  clear hqX
  have hU := uid_eq ut ui
  obtain ⟨qU, hqU⟩ := named (decide (ut = e0 ∧ ui = e0))
  rw [← hqU.out]
  simp only [← hqU.out] at hU
  clear hqU
  cases qX with
  | true =>
    cases qU with
    | true =>
      go_enter Try.func35, Try.ntmps35
      go_wp2
      go_ret
      exact ⟨rfl, hb⟩
    | false =>
      go_enter Try.func35, Try.ntmps35
      go_wp2
      go_ret
      exact ⟨rfl, hb⟩
  | false =>
    cases qU with
    | true =>
      go_enter Try.func35, Try.ntmps35
      go_wp2
      go_ret
      exact ⟨rfl, hb⟩
    | false =>
      go_enter Try.func35, Try.ntmps35
      go_wp2
      go_ret
      exact ⟨rfl, hb⟩
theorem chRight_4 (id tx ut ui : ByteArray) : chRight ⟨4, id, tx, ut, ui⟩ = (decide (id = e0) && decide (ut = e0 ∧ ui = e0)) := by
  simp [chRight, chBare]
set_option maxRecDepth 100000 in
set_option maxHeartbeats 2000000 in
theorem refRight_4 (id tx ut ui : ByteArray) (w : World) :
    Calls Try.prog 35 #[.agg #[.int .u8 4, .string id, .string tx, .string ut, .string ui]] w fun e w' => e = .returned (.bool (chRight ⟨4, id, tx, ut, ui⟩)) ∧ Below w.heap.size w w' := by
  rw [chRight_4]
  have hk := Blk.new w [.int .u8 4, .string id, .string tx, .string ut, .string ui] 28
  have hb := below_alloc w (.cells #[.int .u8 4, .string id, .string tx, .string ut, .string ui] 28)
  have xk := hk.cell
  have hI := empty_iff id
  obtain ⟨qI, hqI⟩ := named (decide (id = e0))
  rw [← hqI.out] at hI ⊢
  clear hqI
  have hU := uid_eq ut ui
  obtain ⟨qU, hqU⟩ := named (decide (ut = e0 ∧ ui = e0))
  rw [← hqU.out]
  simp only [← hqU.out] at hU
  clear hqU
  cases qI with
  | true =>
    cases qU with
    | true =>
      go_enter Try.func35, Try.ntmps35
      go_wp2
      go_ret
      exact ⟨rfl, hb⟩
    | false =>
      go_enter Try.func35, Try.ntmps35
      go_wp2
      go_ret
      exact ⟨rfl, hb⟩
  | false =>
    cases qU with
    | true =>
      go_enter Try.func35, Try.ntmps35
      go_wp2
      go_ret
      exact ⟨rfl, hb⟩
    | false =>
      go_enter Try.func35, Try.ntmps35
      go_wp2
      go_ret
      exact ⟨rfl, hb⟩
theorem chRight_5 (id tx ut ui : ByteArray) : chRight ⟨5, id, tx, ut, ui⟩ = (decide (id = e0) && decide (tx = e0)) := by
  simp [chRight, chBare]
set_option maxRecDepth 100000 in
set_option maxHeartbeats 2000000 in
theorem refRight_5 (id tx ut ui : ByteArray) (w : World) :
    Calls Try.prog 35 #[.agg #[.int .u8 5, .string id, .string tx, .string ut, .string ui]] w fun e w' => e = .returned (.bool (chRight ⟨5, id, tx, ut, ui⟩)) ∧ Below w.heap.size w w' := by
  rw [chRight_5]
  have hk := Blk.new w [.int .u8 5, .string id, .string tx, .string ut, .string ui] 28
  have hb := below_alloc w (.cells #[.int .u8 5, .string id, .string tx, .string ut, .string ui] 28)
  have xk := hk.cell
  have hI := empty_iff id
  obtain ⟨qI, hqI⟩ := named (decide (id = e0))
  rw [← hqI.out] at hI ⊢
  clear hqI
  have hX := empty_iff tx
  obtain ⟨qX, hqX⟩ := named (decide (tx = e0))
  rw [← hqX.out] at hX ⊢
  clear hqX
  cases qI with
  | true =>
    cases qX with
    | true =>
      go_enter Try.func35, Try.ntmps35
      go_wp2
      go_ret
      exact ⟨rfl, hb⟩
    | false =>
      go_enter Try.func35, Try.ntmps35
      go_wp2
      go_ret
      exact ⟨rfl, hb⟩
  | false =>
    cases qX with
    | true =>
      go_enter Try.func35, Try.ntmps35
      go_wp2
      go_ret
      exact ⟨rfl, hb⟩
    | false =>
      go_enter Try.func35, Try.ntmps35
      go_wp2
      go_ret
      exact ⟨rfl, hb⟩
set_option maxRecDepth 100000 in
set_option maxHeartbeats 2000000 in
theorem refRight_no (k : UInt8) (id tx ut ui : ByteArray) (w : World) (h : ¬ (1 ≤ k.toNat ∧ k.toNat ≤ 5)) :
    Calls Try.prog 35 #[.agg #[.int .u8 (k.toNat : Int), .string id, .string tx, .string ut, .string ui]] w fun e w' => e = .returned (.bool false) ∧ Below w.heap.size w w' := by
  have t1 : ((k.toNat : Int) == 1) = false := by simp; omega
  have t2 : ((k.toNat : Int) == 2) = false := by simp; omega
  have t3 : ((k.toNat : Int) == 3) = false := by simp; omega
  have t4 : ((k.toNat : Int) == 4) = false := by simp; omega
  have t5 : ((k.toNat : Int) == 5) = false := by simp; omega
  have hk := Blk.new w [.int .u8 (k.toNat : Int), .string id, .string tx, .string ut, .string ui] 28
  have hb := below_alloc w (.cells #[.int .u8 (k.toNat : Int), .string id, .string tx, .string ut, .string ui] 28)
  have xk := hk.cell
  by_cases h0 : k.toNat = 0
  · have t0 : ((k.toNat : Int) == 0) = true := by simp [h0]
    have t01 : ((k.toNat : Int) != 0) = false := by simp [h0]
    clear h h0
    go_enter Try.func35, Try.ntmps35
    go_wp2
    go_ret
    exact ⟨rfl, hb⟩
  · have t0 : ((k.toNat : Int) == 0) = false := by simp; omega
    have t01 : ((k.toNat : Int) != 0) = true := by simp; omega
    have t6 : ¬ (k.toNat : Int) < 6 := by omega
    clear h h0
    go_enter Try.func35, Try.ntmps35
    go_wp2
    go_ret
    exact ⟨rfl, hb⟩
theorem refRight_w (c : Chg) (w : World) : Calls Try.prog 35 #[.agg (chCells c).toArray] w fun e w' => e = .returned (.bool (chRight c)) ∧ Below w.heap.size w w' := by
  obtain ⟨k, id, tx, ut, ui⟩ := c
  by_cases h : 1 ≤ k.toNat ∧ k.toNat ≤ 5
  · have hk : k = 1 ∨ k = 2 ∨ k = 3 ∨ k = 4 ∨ k = 5 := by
      have : k.toNat = 1 ∨ k.toNat = 2 ∨ k.toNat = 3 ∨ k.toNat = 4 ∨ k.toNat = 5 := by omega
      rcases this with h | h | h | h | h <;> simp [← UInt8.toNat_inj, h]
    rcases hk with rfl | rfl | rfl | rfl | rfl
    · exact refRight_1 id tx ut ui w
    · exact refRight_2 id tx ut ui w
    · exact refRight_3 id tx ut ui w
    · exact refRight_4 id tx ut ui w
    · exact refRight_5 id tx ut ui w
  · have : chRight ⟨k, id, tx, ut, ui⟩ = false := by simp [chRight]; omega
    rw [this]
    exact refRight_no k id tx ut ui w h
end Go.Proofs.Ytiodfbbgbnbdpaa
