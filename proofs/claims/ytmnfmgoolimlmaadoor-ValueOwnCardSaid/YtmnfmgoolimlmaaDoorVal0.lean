/- api.Value in memory: its cells, blocks that are one, results that are one. -/
import Derived.Test.YtmnfmgoolimlmaaDoorMem
import Derived.Deep.DeepCutAuto
import Derived.Laws.Rows
import Derived.Laws.Tables
namespace Go.Proofs.YtmnfmgoolimlmaaDoor
set_option linter.unusedSimpArgs false
set_option linter.unusedVariables false
open Go.RowKit
/-- A value's cells. -/
def vRow (k : Nat) (b : Bool) (n : Int) (s t : ByteArray) (N L : Value) : List Value := [.int .u8 (k : Int), .bool b, .int .i64 n, .string s, .string t, N, L]
def longRow (n : Int) : List Value := vRow 1 false n ⟨#[]⟩ ⟨#[]⟩ (.slice none 0 0) (.slice none 0 0)
def zeroRow : List Value := vRow 0 false 0 ⟨#[]⟩ ⟨#[]⟩ (.slice none 0 0) (.slice none 0 0)
theorem kV : (Tryd.prog.info? 37).map (·.size) = some 7 := by kernel_rfl
theorem kV7 {r : List Value} (h : r.length = 7) : (Tryd.prog.info? 37).map (·.size) = some r.toArray.size := by rw [kV]; simp [h]
theorem vload {w : World} {g : Nat} {r : List Value} (k : Blk w g r 37) (h : r.length = 7) : (loadVar 37 ⟨g, 0, none⟩).run Tryd.prog w = .ok (.agg r.toArray) w :=
  run_loadVar_row w g 37 37 r.toArray (0, 0) _ k Tryd.underlying37 rfl (kV7 h)
theorem vret1 {fn : Func} {p : Tmp} (hr : fn.results = #[.cell p 37]) (tmps : Array Value) {w : World} {g : Nat} {r : List Value} (hp : tmps.getD p undef = .pointer (some ⟨g, 0, none⟩)) (k : Blk w g r 37) (h : r.length = 7) :
    (results fn tmps).run Tryd.prog w = .ok (.agg r.toArray) w :=
  results_cell_row hr tmps w g 37 r.toArray (0, 0) _ hp k Tryd.underlying37 rfl (kV7 h)
theorem vret2 {fn : Func} {p u : Tmp} (hr : fn.results = #[.cell p 37, .tmp u]) (tmps : Array Value) {w : World} {g : Nat} {r : List Value} {x : Value} (hp : tmps.getD p undef = .pointer (some ⟨g, 0, none⟩)) (k : Blk w g r 37) (h : r.length = 7) (hx : tmps.getD u undef = x) :
    (results fn tmps).run Tryd.prog w = .ok (.tuple #[.agg r.toArray, x]) w := by
  rw [results_cell_tmp hr, hp, hx]
  have h1 : (asAddr (.pointer (some ⟨g, 0, none⟩))).run Tryd.prog w = .ok ⟨g, 0, none⟩ w := rfl
  rw [h1]
  simp only [Result.andThen, vload k h]
/-- Two boxes, one behind the other. -/
theorem box2 (w : World) (r q : List Value) (t : TypeId) : Blk ((w.alloc (.cells r.toArray t)).alloc (.cells q.toArray t)) w.heap.size r t ∧ Blk ((w.alloc (.cells r.toArray t)).alloc (.cells q.toArray t)) (w.heap.size + 1) q t ∧ Below w.heap.size w ((w.alloc (.cells r.toArray t)).alloc (.cells q.toArray t)) := by
  have b1 := below_alloc w (.cells r.toArray t)
  have hs : (w.alloc (.cells r.toArray t)).heap.size = w.heap.size + 1 := by show (w.heap.push _).size = _; exact Array.size_push _
  have k2 := Blk.new (w.alloc (.cells r.toArray t)) q t
  rw [hs] at k2
  exact ⟨(Blk.new w r t).alloc _, k2, bt b1 (below_alloc _ _)⟩
theorem Blk.vrow {u : World} {k : Nat} {zs : List Value} {T : TypeId} (h : Blk u k zs T) (vs : List Value) : Blk (u.setRow k vs.toArray) k vs T := setRow_heap u k zs.toArray vs.toArray T (0, 0) h
theorem vrow_far (u : World) (k j : Nat) (cs : Array Value) (h : j ≠ k) : (u.setRow k cs).heap[j]? = u.heap[j]? := by
  simp only [World.setRow, Array.getElem?_modify]
  rw [if_neg (Ne.symm h)]
theorem below_vrow {B : Nat} {a w : World} (h : Below B a w) {k : Nat} (hk : B ≤ k) (cs : Array Value) : Below B a (w.setRow k cs) :=
  ⟨h.os, h.tape, h.output, by simp only [World.setRow, Array.size_modify]; exact h.size, fun j hj => (vrow_far w k j cs (by omega)).trans (h.block j hj)⟩
theorem all_one {r : List Value} (h : ∀ v ∈ r, v.oneCell' = true) : r.toArray.all (fun x => x.oneCell') = true := by
  rw [Array.all_eq_true]
  intro i hi
  exact h _ (by simp)
theorem drew_below {B : Nat} {a w : World} (h : Below B a w) : Below B a w.drew := below_drewN h 1
end Go.Proofs.YtmnfmgoolimlmaaDoor
