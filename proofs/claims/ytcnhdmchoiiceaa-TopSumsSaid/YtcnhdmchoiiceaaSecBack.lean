/- slices.Backward over writes: the iterator's contract. -/
import Derived.Test.YtcnhdmchoiiceaaSecPlain
import Derived.RangeFuncNested
import Derived.RangeFuncBound
import Derived.RangeFuncCalls
import Derived.RangeFuncLeaves
import Derived.RangeFuncBox
import Derived.Shelf.Abstract
import Derived.Shelf.RegionOpen
import Derived.OwnWalkIn
import Derived.TacticsInMore
import Derived.LoopNIn
import Derived.LoopIn
namespace Go.Proofs.Ytcnhdmchoiiceaa
open Go.RowKit Go.Shelf
attribute [local go_sem] Oper.semAt_some
def upto {α : Type} (f : Nat → α) (k : Nat) : List α := (List.range k).map f
theorem Blk.ownG {W W' : World} {g : Nat} {vs : List Value} {t : TypeId} {row : Option Nat} (h : Blk W g vs t) (hg : W.grownBy W' row) (hr : ∀ r, row = some r → ∃ o : Obj, W.heap[r]? = some o ∧ o.isCells = false) : Blk W' g vs t :=
  (hg.block g h.lt (fun e => by obtain ⟨o, ho, hc⟩ := hr g e.symm; rw [show W.heap[g]? = _ from h] at ho; cases ho; cases hc)).trans h
theorem upto_succ {α : Type} (f : Nat → α) (k : Nat) : upto f (k + 1) = upto f k ++ [f k] := by simp [upto, List.range_succ]
theorem upto_length {α : Type} (f : Nat → α) (k : Nat) : (upto f k).length = k := by simp [upto]
/-- What comes in the t-th round: the last but t. -/
def bw (l : List Wr) (t : Nat) : Nat × Wr := (l.length - 1 - t, l.getD (l.length - 1 - t) ⟨0, ⟨#[]⟩⟩)
def encW (x : Nat × Wr) : Array Value := #[.int .i64 (x.1 : Int), .agg #[.int .i64 x.2.sec, .string x.2.data]]
set_option maxRecDepth 100000 in
set_option maxHeartbeats 1000000 in
theorem back1_in (n : Nat) (hn : 1 ≤ n) (l Bs n₀ : Nat) (A : Option Addr) (cap : Nat) (zs : List Wr) (hreach : zs.length ≤ 140737488351232) (J Jx : List (Nat × Wr) → World → Prop)
    (hY : ∀ pre x W, J pre W → pre.length < zs.length → YieldAt Fence.wide (n - 1) Try.prog l (encW x) W fun e W' =>
      (e = .returned (.bool true) ∧ J (pre ++ [x]) W' ∧ Below n₀ W W') ∨ (e = .returned (.bool false) ∧ Jx (pre ++ [x]) W'))
    (W : World) (hBs : Bs < n₀) (hBc : W.cell? ⟨Bs, 0, none⟩ = some (.slice A zs.length cap)) (hA : ∀ a, A = some a → zs ≠ [] → a.block < n₀) (hl : Writes W A zs) (h0 : J [] W) :
    CallsIn Fence.wide n Try.prog 54 #[.func (.yield l) #[] #[], .pointer (some ⟨Bs, 0, none⟩)] W fun e W' => (∃ v, e = .returned v) ∧
      ((∃ ys, ys = upto (bw zs) zs.length ∧ J ys W') ∨ (∃ pre, (∃ k, k ≤ zs.length ∧ pre = upto (bw zs) k) ∧ Jx pre W')) := by
  refine callsIn_of_wp Try.func54 rfl trivial ?_ rfl
  simp only [Try.ntmps54, List.size_toArray, List.length_cons, List.length_nil, Nat.reduceAdd, Nat.reduceSub, Array.replicate_succ, Array.replicate_zero, List.push_toArray, List.append_toArray, List.nil_append, List.cons_append]
  gi_wp2
  gi_loopw [3] (fun i wr => ∃ k : Nat, k ≤ zs.length ∧ i = .int .i64 (((zs.length - k : Nat) : Int) - 1) ∧ J (upto (bw zs) k) wr ∧ Below n₀ W wr)
    (fun i _ => ((intOf i) + 1).toNat)
  case atStart => exact ⟨0, Nat.zero_le _, rfl, h0, Below.refl _ _⟩
  case round =>
    obtain ⟨k, hk, rfl, hJs, hnx⟩ := hrel
    by_cases hlt : k < zs.length
    · have hc := (hnx.cell (p := ⟨Bs, 0, none⟩) hBs).trans hBc
      obtain ⟨t, ht⟩ := named (zs.length - 1 - k)
      have htl : t < zs.length := by rw [ht.out]; omega
      obtain ⟨b, o, rfl, hc1, hc2⟩ := hl.at_ htl
      have hb := hA _ rfl (by intro h; rw [h] at hlt; simp at hlt)
      have hc1' := (hnx.cell (p := ⟨b, o + t * 2, none⟩) hb).trans hc1
      have hc2' := (hnx.cell (p := ⟨b, o + t * 2 + 1, none⟩) hb).trans hc2
      obtain ⟨fn, tmps, assign, body, hy, hR⟩ := hY _ (bw zs k) wr hJs (by rw [upto_length]; exact hlt)
      have he : encW (bw zs k) = #[.int .i64 (t : Int), .agg #[.int .i64 zs[t].sec, .string zs[t].data]] := by
        simp only [encW, bw, ← ht.out]
        rw [List.getD_eq_getElem?_getD, List.getElem?_eq_getElem htl]
        rfl
      rw [he] at hy
      have hi : ((zs.length - k : Nat) : Int) - 1 = (t : Int) := by rw [ht.out]; omega
      rw [hi]
      clear he hc1 hc2
      have hi' := hide hi
      clear hi
      gi_wp2
      refine hR.mono ?_
      rintro e W3 (⟨rfl, hJ3, hk3⟩ | ⟨rfl, hJx3⟩)
      · gi_wp2
        go_roundw
        case rel => exact ⟨k + 1, by omega, by rw [← hi'.out]; congr 2; omega, by rw [upto_succ]; exact hJ3, hnx.trans hk3⟩
        case measure => simp [intOf]
      · gi_wp2
        refine bodyPost_ret (results_none rfl _ _ _) rfl ?_
        exact ⟨⟨_, rfl⟩, .inr ⟨_, ⟨k + 1, by omega, (upto_succ _ _).symm⟩, hJx3⟩⟩
    · obtain rfl : k = zs.length := by omega
      gi_wp2
      go_end0
      exact ⟨⟨_, rfl⟩, .inl ⟨_, rfl, hJs⟩⟩
theorem upto_rev (l : List Wr) : (upto (bw l) l.length).map (·.2) = l.reverse := by
  apply List.ext_getElem
  · simp [upto]
  · intro i h1 h2
    have hi : i < l.length := by simpa [upto] using h1
    simp only [upto, List.map_map, List.getElem_map, List.getElem_range, Function.comp, bw, List.getElem_reverse]
    rw [List.getD_eq_getElem?_getD, List.getElem?_eq_getElem (by omega)]
    rfl
theorem upto_take {α : Type} (f : Nat → α) (k n : Nat) (h : k ≤ n) : upto f k <+: upto f n := by
  refine ⟨(List.range' k (n - k)).map f, ?_⟩
  simp only [upto, ← List.map_append]
  congr 1
  rw [List.range_eq_range', List.range_eq_range']
  have := List.range'_append (s := 0) (m := k) (n := n - k) (step := 1)
  simp at this
  rw [this]
  congr 1
  omega
theorem holds_none (d : Dk) (n : Int) (h : ∀ p ∈ upto (bw d.pend) d.pend.length, (p.2.sec == n) = false) : holdsOf d n = d.secs.getD n.toNat ⟨#[]⟩ := by
  have : d.pend.reverse.find? (fun x => x.sec == n) = none := by
    rw [List.find?_eq_none, ← upto_rev]
    intro x hx
    obtain ⟨p, hp, rfl⟩ := List.mem_map.1 hx
    simp [h p hp]
  simp only [holdsOf, this]
theorem holds_some (d : Dk) (n : Int) (k : Nat) (hk : k ≤ d.pend.length) (ini : List (Nat × Wr)) (last : Nat × Wr) (e : upto (bw d.pend) k = ini ++ [last]) (h : ∀ p ∈ ini, (p.2.sec == n) = false) (hl : (last.2.sec == n) = true) : holdsOf d n = last.2.data := by
  have : d.pend.reverse.find? (fun x => x.sec == n) = some last.2 := by
    obtain ⟨t, ht⟩ := upto_take (bw d.pend) k d.pend.length hk
    rw [← upto_rev, ← ht, e, List.map_append, List.map_append, List.append_assoc, List.find?_append]
    have h0 : (ini.map (·.2)).find? (fun x : Wr => x.sec == n) = none := by
      rw [List.find?_eq_none]
      intro x hx
      obtain ⟨p, hp, rfl⟩ := List.mem_map.1 hx
      simp [h p hp]
    rw [h0]
    simp [hl]
  simp only [holdsOf, this]
theorem back_stops (n : Nat) (hn : 1 ≤ n) (Bs n₀ : Nat) (A : Option Addr) (cap : Nat) (zs : List Wr) (hreach : zs.length ≤ 140737488351232) (w : World) (hBs : Bs < n₀) (hn₀ : n₀ ≤ w.heap.size)
    (hBc : w.cell? ⟨Bs, 0, none⟩ = some (.slice A zs.length cap)) (hA : ∀ a, A = some a → zs ≠ [] → a.block < n₀) (hl : Writes w A zs) :
    SeqStopsK Fence.wide n Try.prog 54 #[.pointer (some ⟨Bs, 0, none⟩)] encW (Below n₀) (fun ys => ys = upto (bw zs) zs.length) (fun pre => ∃ k, k ≤ zs.length ∧ pre = upto (bw zs) k) zs.length w := fun l J Jx W hW _ _ hY h0 =>
  back1_in n hn l Bs n₀ A cap zs hreach J Jx hY W hBs ((hW.cell (p := ⟨Bs, 0, none⟩) (by simp; omega)).trans hBc) hA (hl.below hW) h0
end Go.Proofs.Ytcnhdmchoiiceaa
