/- slices.Chunk over bytes, 61 at a time: the iterator's contract. -/
import Derived.Test.YtpfbmmeipojodaaGD
import Derived.Test.YtpfbmmeipojodaaGA
import Derived.RangeFuncNested
import Derived.RangeFuncBound
import Derived.RangeFuncCalls
import Derived.RangeFuncLeaves
import Derived.RangeFuncBox
import Derived.Shelf.Abstract
import Derived.Shelf.RegionOpen
import Derived.OwnWalkIn
import Derived.TacticsInMore
import Derived.LoopNIn
import Derived.LoopIn
import Derived.Sort.QuietIn
namespace Go.Proofs.Ytpfbmmeipojodaa
open Go.RowKit Go.Shelf
attribute [local go_sem] Oper.semAt_some
def uptoN (k : Nat) : List Nat := List.range k
theorem uptoN_succ (k : Nat) : uptoN (k + 1) = uptoN k ++ [k] := List.range_succ
theorem uptoN_length (k : Nat) : (uptoN k).length = k := List.length_range
/-- The bytes that come in round k. -/
def chN (len k : Nat) : Nat := min 61 (len - 61 * k)
def encC (b len k : Nat) : Array Value := #[.slice (some ⟨b, 61 * k, none⟩) (chN len k) (chN len k)]
/-- The cells of two blocks are as they were. -/
def Keep2 (a b : Nat) (A B : World) : Prop := ∀ i, B.cell? ⟨a, i, none⟩ = A.cell? ⟨a, i, none⟩ ∧ B.cell? ⟨b, i, none⟩ = A.cell? ⟨b, i, none⟩
theorem Keep2.refl (a b : Nat) (A : World) : Keep2 a b A A := fun _ => ⟨rfl, rfl⟩
theorem Keep2.trans {a b : Nat} {A B C : World} (h : Keep2 a b A B) (k : Keep2 a b B C) : Keep2 a b A C := fun i => ⟨(k i).1.trans (h i).1, (k i).2.trans (h i).2⟩
theorem Keep2.drewN {a b : Nat} {A B : World} (h : Keep2 a b A B) (n : Nat) : Keep2 a b A (B.drewN n) := h
theorem Keep2.of_below {a b n : Nat} {A B : World} (h : Below n A B) (ha : a < n) (hb : b < n) : Keep2 a b A B := fun _ => ⟨h.cell (by exact ha), h.cell (by exact hb)⟩
theorem Keep2.put {a b n : Nat} (ha : a < n) (hb : b < n) (W : World) (l : Nat) (o o' : Obj) (hl : n ≤ l) (_h : W.heap[l]? = some o) (_hc : o.isCells = false) : Keep2 a b W (W.putObj l o') := fun i => by
  have ha' : l ≠ a := by omega
  have hb' : l ≠ b := by omega
  constructor <;> simp [World.cell?, World.putObj, Array.getElem?_setIfInBounds_ne, ha', hb']
theorem pieces_lt (len k : Nat) : k < piecesN len ↔ 61 * k < len := by unfold piecesN; omega
set_option maxRecDepth 100000 in
set_option maxHeartbeats 1000000 in
theorem chunk1_in (n : Nat) (hn : 1 ≤ n) (l Bs Bn b len cap : Nat) (hreach : len ≤ 1000000) (hcap : len ≤ cap) (J Jx : List Nat → World → Prop) (hJd : ∀ pre W1 m, J pre W1 → J pre (W1.drewN m))
    (hY : ∀ pre x W, J pre W → pre.length < piecesN len → YieldAt Fence.wide (n - 1) Try.prog l (encC b len x) W fun e W' =>
      (e = .returned (.bool true) ∧ J (pre ++ [x]) W' ∧ Keep2 Bs Bn W W') ∨ (e = .returned (.bool false) ∧ Jx (pre ++ [x]) W'))
    (W : World) (c1 : W.cell? ⟨Bs, 0, none⟩ = some (.slice (some ⟨b, 0, none⟩) len cap)) (c2 : W.cell? ⟨Bn, 0, none⟩ = some (.int .i64 61)) (h0 : J [] W) :
    CallsIn Fence.wide n Try.prog 74 #[.func (.yield l) #[] #[], .pointer (some ⟨Bs, 0, none⟩), .pointer (some ⟨Bn, 0, none⟩)] W fun e W' => (∃ v, e = .returned v) ∧
      ((∃ ys, ys = uptoN (piecesN len) ∧ J ys W') ∨ (∃ pre, (∃ k, k ≤ piecesN len ∧ pre = uptoN k) ∧ Jx pre W')) := by
  refine callsIn_of_wp Try.func74 rfl trivial ?_ rfl
  simp only [Try.ntmps74, List.size_toArray, List.length_cons, List.length_nil, Nat.reduceAdd, Nat.reduceSub, Array.replicate_succ, Array.replicate_zero, List.push_toArray, List.append_toArray, List.nil_append, List.cons_append]
  gi_wp2
  gi_loopw [4] (fun i wr => ∃ k : Nat, k ≤ piecesN len ∧ i = .int .i64 ((61 * k : Nat) : Int) ∧ J (uptoN k) wr ∧ Keep2 Bs Bn W wr)
    (fun i _ => len + 61 - (intOf i).toNat)
  case atStart => exact ⟨0, Nat.zero_le _, rfl, h0, Keep2.refl _ _ _⟩
  case round =>
    obtain ⟨k, hk, rfl, hJs, hnx⟩ := hrel
    have d1 := (hnx 0).1.trans c1
    have d2 := (hnx 0).2.trans c2
    by_cases hlt : k < piecesN len
    · have hlt2 := (pieces_lt len k).1 hlt
      obtain ⟨a, ha⟩ := named (61 * k)
      rw [← ha.out] at hlt2 ⊢
      have h1 : (a : Int) < (len : Int) := by omega
      have h2 : (a : Int) ≤ (len : Int) := by omega
      have h3 : (0 : Int) ≤ (a : Int) := by omega
      have hYk := fun q => hY _ k (wr.drewN q) (hJd _ _ q hJs) (by rw [uptoN_length]; exact hlt)
      obtain ⟨m, hm⟩ := named (chN len k)
      have he : encC b len k = #[.slice (some ⟨b, a, none⟩) m m] := by rw [encC, ← ha.out, ← hm.out]
      rw [he] at hYk
      clear he
      rcases Nat.lt_or_ge (len - a) 61 with h61 | h61
      · have g1 : ((len - a : Nat) : Int) < 61 := by omega
        have hq1 : ((a : Int) + ((len - a : Nat) : Int)).toNat - a = m := by rw [hm.out, chN, ← ha.out, Nat.min_eq_right (by omega)]; omega
        clear h61
        gi_wp2_with (gi_quiet (fail); obtain ⟨fn, tmps, assign, body, hy, hR⟩ := hYk nq)
        refine hR.mono ?_
        rintro e W3 (⟨rfl, hJ3, hk3⟩ | ⟨rfl, hJx3⟩)
        · have e2 : W3.cell? ⟨Bn, 0, none⟩ = some (.int .i64 61) := (hk3 0).2.trans d2
          gi_wp2
          go_roundw
          case rel => exact ⟨k + 1, by omega, by rw [show ((61 * (k + 1) : Nat) : Int) = (a : Int) + 61 by rw [ha.out]; omega], by rw [uptoN_succ]; exact hJ3, (hnx.drewN _).trans hk3⟩
          case measure => simp [intOf]; omega
        · gi_wp2
          refine bodyPost_ret (results_none rfl _ _ _) rfl ?_
          exact ⟨⟨_, rfl⟩, .inr ⟨_, ⟨k + 1, by omega, (uptoN_succ _).symm⟩, hJx3⟩⟩
      · have g1 : (61 : Int) ≤ ((len - a : Nat) : Int) := by omega
        have hq1 : ((a : Int) + 61).toNat - a = m := by rw [hm.out, chN, ← ha.out, Nat.min_eq_left (by omega)]; omega
        clear h61
        gi_wp2_with (gi_quiet (fail); obtain ⟨fn, tmps, assign, body, hy, hR⟩ := hYk nq)
        refine hR.mono ?_
        rintro e W3 (⟨rfl, hJ3, hk3⟩ | ⟨rfl, hJx3⟩)
        · have e2 : W3.cell? ⟨Bn, 0, none⟩ = some (.int .i64 61) := (hk3 0).2.trans d2
          gi_wp2
          go_roundw
          case rel => exact ⟨k + 1, by omega, by rw [show ((61 * (k + 1) : Nat) : Int) = (a : Int) + 61 by rw [ha.out]; omega], by rw [uptoN_succ]; exact hJ3, (hnx.drewN _).trans hk3⟩
          case measure => simp [intOf]; omega
        · gi_wp2
          refine bodyPost_ret (results_none rfl _ _ _) rfl ?_
          exact ⟨⟨_, rfl⟩, .inr ⟨_, ⟨k + 1, by omega, (uptoN_succ _).symm⟩, hJx3⟩⟩
    · obtain rfl : k = piecesN len := by omega
      have h9 : (len : Int) ≤ ((61 * piecesN len : Nat) : Int) := by
        have : ¬ 61 * piecesN len < len := fun h => Nat.lt_irrefl _ ((pieces_lt len (piecesN len)).2 h)
        omega
      gi_wp2
      go_end0
      exact ⟨⟨_, rfl⟩, .inl ⟨_, rfl, hJs⟩⟩
theorem grown_drewN (W : World) (m : Nat) : W.grownBy (W.drewN m) none := ⟨rfl, rfl, rfl, Nat.le_refl _, fun _ _ _ => rfl⟩
theorem chunk_stops (n : Nat) (hn : 1 ≤ n) (Bs Bn b len cap : Nat) (hreach : len ≤ 1000000) (hcap : len ≤ cap) (w : World) (hBs : Bs < w.heap.size) (hBn : Bn < w.heap.size)
    (c1 : w.cell? ⟨Bs, 0, none⟩ = some (.slice (some ⟨b, 0, none⟩) len cap)) (c2 : w.cell? ⟨Bn, 0, none⟩ = some (.int .i64 61)) :
    SeqStopsK Fence.wide n Try.prog 74 #[.pointer (some ⟨Bs, 0, none⟩), .pointer (some ⟨Bn, 0, none⟩)] (encC b len) (Keep2 Bs Bn) (fun ys => ys = uptoN (piecesN len)) (fun pre => ∃ k, k ≤ piecesN len ∧ pre = uptoN k) (piecesN len) w := fun l J Jx W hW hJ _ hY h0 =>
  chunk1_in n hn l Bs Bn b len cap hreach hcap J Jx (fun pre W1 m h => hJ pre W1 (W1.drewN m) none h (grown_drewN W1 m) (fun r e => by cases e)) hY W
    ((hW.cell (p := ⟨Bs, 0, none⟩) hBs).trans c1) ((hW.cell (p := ⟨Bn, 0, none⟩) hBn).trans c2) h0
set_option maxHeartbeats 1000000 in
theorem chunk_w (A : Option Addr) (n c : Nat) (w : World) :
    Calls Try.prog 44 #[.slice A n c, .int .i64 61] w fun e w' => e = .returned (.func (.func 74) #[] #[.pointer (some ⟨w.heap.size, 0, none⟩), .pointer (some ⟨w.heap.size + 1, 0, none⟩)]) ∧
      w' = (w.alloc (.cells #[.slice A n c] 56)).alloc (.cells #[.int .i64 61] 3) := by
  have hmf : ∀ fn first cap w, (Instr.makeFunc fn first cap).run Try.prog w = .ok (.func fn first cap) w := fun _ _ _ _ => rfl
  go_enter Try.func44, Try.ntmps44
  go_wp2
  go_ret
  exact ⟨rfl, rfl⟩
end Go.Proofs.Ytpfbmmeipojodaa
