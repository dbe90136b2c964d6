/- Plain: texts with their check sums; disks that hold only such. -/
import Derived.Test.YtcnhdmchoiiceaaCrcTurn
import Derived.Test.YtcnhdmchoiiceaaSecLaws2
namespace Go.Proofs.Ytcnhdmchoiiceaa
open Go.RowKit
open Crc
def padL (l : List UInt8) : List UInt8 := l ++ List.replicate (60 - l.length) 0
theorem padL_length {l : List UInt8} (h : l.length ≤ 60) : (padL l).length = 60 := by rw [padL, List.length_append, List.length_replicate]; omega
def crcN (l : List UInt8) : Nat := (more 0#32 l).toNat
theorem crcN_lt (l : List UInt8) : crcN l < 4294967296 := (more 0#32 l).isLt
def bodyL (t : List UInt8) : List UInt8 := t ++ putL (crcN t) 4
def sumOk (s : ByteArray) : Bool := decide (s.size ≤ 60)
def sumS (s : ByteArray) : ByteArray := if s.size ≤ 60 then str (bodyL (padL s.data.toList)) else ⟨#[]⟩
def goodL (l : List UInt8) : Bool := decide (l.length = 64) && decide (getL (l.drop 60) = crcN (l.take 60))
def goodB (s : ByteArray) : Bool := goodL s.data.toList
theorem data_length (s : ByteArray) : s.data.toList.length = s.size := Array.length_toList
theorem goodL_body {t : List UInt8} (h : t.length = 60) : goodL (bodyL t) = true := by
  unfold goodL bodyL
  rw [List.drop_left' h, List.take_left' h, getL_put4 _ (crcN_lt _)]
  simp [h, putL_length]
theorem goodB_sum {s : ByteArray} (h : s.size ≤ 60) : goodB (sumS s) = true := by
  unfold goodB sumS
  rw [if_pos h, str_data]
  exact goodL_body (padL_length (by rw [data_length]; exact h))
theorem goodB_size {s : ByteArray} (h : goodB s = true) : s.size = 64 := by
  simp only [goodB, goodL, Bool.and_eq_true, decide_eq_true_eq] at h
  rw [← data_length]; exact h.1
theorem crcN_ne {a b : List UInt8} (h : more 0#32 a ≠ more 0#32 b) : crcN a ≠ crcN b := fun e => h (BitVec.eq_of_toNat_eq e)
theorem getL_inj : ∀ (a b : List UInt8), a.length = b.length → getL a = getL b → a = b
  | [], [], _, _ => rfl
  | x :: a, y :: b, hl, h => by
    simp only [getL] at h
    have hx := x.toNat_lt
    have hy := y.toNat_lt
    have h1 : x.toNat = y.toNat := by omega
    have h2 : getL a = getL b := by omega
    rw [UInt8.toNat_inj.1 h1, getL_inj a b (by simpa using hl) h2]
theorem flipL_ne (l : List UInt8) (n : Nat) (h : n / 8 < l.length) : flipL l n ≠ l := fun e => one_turned 0#32 l n h (by rw [e])
theorem flipL_take {a b : List UInt8} {n : Nat} (h : n / 8 < a.length) : flipL (a ++ b) n = flipL a n ++ b := by
  unfold flipL
  generalize n / 8 = i at h ⊢
  apply List.ext_getElem?
  intro j
  simp only [List.getElem?_modify, List.getElem?_append, List.length_modify]
  by_cases hj : j < a.length
  · simp [hj]
  · simp [hj, show ¬ i = j by omega]
theorem flipL_drop {a b : List UInt8} {n : Nat} (h : a.length ≤ n / 8) : flipL (a ++ b) n = a ++ flipL b (n - 8 * a.length) := by
  unfold flipL
  rw [show (n - 8 * a.length) / 8 = n / 8 - a.length by omega, show (n - 8 * a.length) % 8 = n % 8 by omega]
  generalize n / 8 = i at h ⊢
  apply List.ext_getElem?
  intro j
  simp only [List.getElem?_modify, List.getElem?_append]
  by_cases hj : j < a.length
  · simp [hj, show ¬ i = j by omega]
  · by_cases he : i = j
    · simp [he, hj]
    · simp [hj, he, show ¬ i - a.length = j - a.length by omega]
theorem goodL_flip {l : List UInt8} (hg : goodL l = true) {n : Nat} (h : n / 8 < 64) : goodL (flipL l n) = false := by
  simp only [goodL, Bool.and_eq_true, decide_eq_true_eq] at hg
  obtain ⟨hl, hs⟩ := hg
  obtain ⟨a, b, rfl, ha, hb⟩ : ∃ a b, l = a ++ b ∧ a.length = 60 ∧ b.length = 4 := ⟨l.take 60, l.drop 60, by simp, by simp; omega, by simp; omega⟩
  rw [List.drop_left' ha, List.take_left' ha] at hs
  by_cases hn : n / 8 < 60
  · rw [flipL_take (by omega)]
    have := crcN_ne (one_turned 0#32 a n (by omega))
    simp only [goodL, Bool.and_eq_false_iff, decide_eq_false_iff_not]
    right
    rw [List.drop_left' (by rw [flipL_length, ha]), List.take_left' (by rw [flipL_length, ha]), hs]
    exact Ne.symm this
  · rw [flipL_drop (by omega)]
    simp only [goodL, Bool.and_eq_false_iff, decide_eq_false_iff_not]
    right
    rw [List.drop_left' ha, List.take_left' ha, ← hs]
    intro e
    exact flipL_ne b (n - 8 * a.length) (by omega) (getL_inj _ _ (flipL_length _ _) e)
theorem goodB_flip {s : ByteArray} (hg : goodB s = true) {n : Nat} (h : n / 8 < 64) : goodB (str (flipL s.data.toList n)) = false := by
  unfold goodB
  rw [str_data]
  exact goodL_flip hg h
/-- A disk of four sectors that holds only texts with their check sums. -/
structure Inv (d : Dk) (c : Nat) : Prop where
  rt : right d = true
  off : d.off = false
  fu : d.fuse = -1
  four : d.secs.length = 4
  g1 : ∀ s ∈ d.secs, goodB s = true
  g2 : ∀ x ∈ d.pend, goodB x.data = true
  many : d.pend.length ≤ c
theorem stl_all_of (p : ByteArray → Prop) (may : Nat → Bool) (k : Nat) (l : List Wr) (s : List ByteArray) (hs : ∀ x ∈ s, p x) (hl : ∀ x ∈ l, p x.data) : ∀ x ∈ stl may k l s, p x := by
  induction l generalizing k s with
  | nil => exact hs
  | cons x l ih =>
    rw [stl]
    refine ih _ _ ?_ (fun y hy => hl y (by simp [hy]))
    split
    · intro y hy
      rcases List.mem_or_eq_of_mem_set hy with h | rfl
      · exact hs y h
      · exact hl x (by simp)
    · exact hs
theorem Inv.put {d : Dk} {c : Nat} (h : Inv d c) (hc : c < 4096) {i : Nat} (hi : i < 4) {x : ByteArray} (hx : goodB x = true) : Inv (putD d i x) (c + 1) := by
  obtain ⟨S, P, off, f⟩ := d
  obtain ⟨rt, ho, hf, h4, g1, g2, many⟩ := h
  simp only at ho hf h4 g1 g2 many
  subst ho
  subst hf
  have hx64 := goodB_size hx
  have href : refE ⟨S, P, false, -1⟩ i x = 0 := by
    have : ¬ 4096 ≤ P.length := by omega
    simp [refE, there_of (show i < S.length by omega), hx64, this]
  have e : putD ⟨S, P, false, -1⟩ i x = ⟨S, P ++ [⟨i, x⟩], false, -1⟩ := by simp [putD, rt, href, workD, burn]
  rw [e]
  exact ⟨right_more rt (by omega) hx64 (by omega), rfl, rfl, h4, g1, fun y hy => by
    rcases List.mem_append.1 hy with h' | h'
    · exact g2 y h'
    · simp only [List.mem_singleton] at h'; subst h'; exact hx, by simp only [List.length_append, List.length_cons, List.length_nil]; omega⟩
theorem Inv.sync {d : Dk} {c : Nat} (h : Inv d c) : Inv (syncD d) c := by
  obtain ⟨S, P, off, f⟩ := d
  obtain ⟨rt, ho, hf, h4, g1, g2, many⟩ := h
  simp only at ho hf h4 g1 g2 many
  subst ho
  subst hf
  rcases sync_cases rt with ⟨a, _⟩ | ⟨_, b, c'⟩
  · simp [syncE, rt, workE] at a
  · have c2 := c'
    rw [b] at c2 ⊢
    exact ⟨c2, rfl, rfl, by rw [stl_length]; exact h4, stl_all_of _ _ _ _ _ g1 g2, by simp, by simp⟩
theorem Inv.crash {d : Dk} {c : Nat} (h : Inv d c) (keep : List Bool) {i : Nat} (hi : i < 4) : readE (crashD d keep) i = 0 ∧ goodB (readS (crashD d keep) i) = true := by
  obtain ⟨h1, h2⟩ := read_crash (keep := keep) (m := i) h.rt (by have := h.four; omega)
  refine ⟨h1, ?_⟩
  rw [h2]
  have hl : i < (stl (mayOf keep) 0 d.pend d.secs).length := by rw [stl_length]; have := h.four; omega
  have : (stl (mayOf keep) 0 d.pend d.secs).getD i ⟨#[]⟩ = (stl (mayOf keep) 0 d.pend d.secs)[i] := by simp [List.getD, hl]
  rw [this]
  exact stl_all_of (fun s => goodB s = true) _ _ _ _ h.g1 h.g2 _ (List.getElem_mem _)
def start4 (x : ByteArray) (k : Nat) : Dk := ⟨[zero64, zero64, zero64, zero64], (List.range k).map (fun i : Nat => (⟨(i : Int), x⟩ : Wr)), false, -1⟩
theorem zero_size : zero64.size = 64 := by simp [zero64, str_size]
theorem start_right {x : ByteArray} (hx : x.size = 64) {k : Nat} (hk : k ≤ 4) : right (start4 x k) = true := by
  rw [right_iff]
  refine ⟨by simp [start4], by simp [start4]; omega, by simp [start4, zero_size], fun y hy => ?_⟩
  simp only [start4, List.mem_map, List.mem_range] at hy
  obtain ⟨i, hi, rfl⟩ := hy
  exact ⟨by simp, by simp [start4]; omega, hx⟩
theorem start_put {x : ByteArray} (hx : x.size = 64) {k : Nat} (hk : k < 4) : putD (start4 x k) k x = start4 x (k + 1) := by
  have hr := start_right hx (Nat.le_of_lt hk)
  have href : refE (start4 x k) k x = 0 := by
    have : ¬ 4096 ≤ k := by omega
    simp [refE, start4, there_of (show k < [zero64, zero64, zero64, zero64].length by simpa using hk), hx, this]
  rw [putD, if_pos hr, href]
  simp [start4, workD, burn, List.range_succ]
theorem start_sync {x : ByteArray} (hx : goodB x = true) : Inv (syncD (start4 x 4)) 0 := by
  have hr := start_right (goodB_size hx) (Nat.le_refl 4)
  have e : syncD (start4 x 4) = ⟨[x, x, x, x], [], false, -1⟩ := by
    rw [syncD, if_pos hr]
    simp [start4, workD, burn, settled, List.range_succ, stl]
  rw [e]
  refine ⟨?_, rfl, rfl, rfl, by simp [hx], by simp, by simp⟩
  rw [right_iff]
  exact ⟨by simp, by simp, by simp [goodB_size hx], by simp⟩
theorem start_new (x : ByteArray) : newD 4 = start4 x 0 ∧ newE 4 = 0 := by
  simp [newD, newE, start4]
end Go.Proofs.Ytcnhdmchoiiceaa
