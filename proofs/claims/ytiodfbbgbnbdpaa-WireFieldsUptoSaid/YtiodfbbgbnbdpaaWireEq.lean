/- Changes and requests: their cells; when two are one. -/
import Derived.Test.YtiodfbbgbnbdpaaWirePlain
import Derived.Laws.StructEq
namespace Go.Proofs.Ytiodfbbgbnbdpaa
open Go.RowKit
structure Chg where
  k : UInt8
  id : ByteArray
  tx : ByteArray
  ut : ByteArray
  ui : ByteArray
deriving DecidableEq
structure Ask where
  k : UInt8
  n : Nat
  c : Chg
  v : Nat
  ts : List ByteArray
deriving DecidableEq
def e0 : ByteArray := ⟨#[]⟩
def chg0 : Chg := ⟨0, e0, e0, e0, e0⟩
def chCells (c : Chg) : List Value := [.int .u8 (c.k.toNat : Int), .string c.id, .string c.tx, .string c.ut, .string c.ui]
def askHead (a : Ask) : List Value := [.int .u8 (a.k.toNat : Int), .int .u64 (a.n : Int), .int .u8 (a.c.k.toNat : Int), .string a.c.id, .string a.c.tx, .string a.c.ut, .string a.c.ui, .int .u64 (a.v : Int)]
def askCells (a : Ask) : List Value := askHead a ++ strs a.ts
theorem text_iff (a b : ByteArray) : a.toList = b.toList ↔ a = b := by
  rw [ByteArray.toList_eq, ByteArray.toList_eq]
  cases a; cases b
  simp
theorem u8_iff (a b : UInt8) : ((a.toNat : Int) = (b.toNat : Int)) ↔ a = b := by
  rw [Int.natCast_inj, UInt8.toNat_inj]
theorem ch_eq (c d : Chg) (W : World) : (binOp .eql 28 (.agg (chCells c).toArray) (.agg (chCells d).toArray)).run Try.prog W = .ok (.bool (decide (c = d))) W := by
  obtain ⟨k, id, tx, ut, ui⟩ := c
  obtain ⟨k', id', tx', ut', ui'⟩ := d
  unfold chCells
  simp only [Chg.mk.injEq]
  simp [go_sem, text_iff, u8_iff]
  repeat' (split; rename_i h; subst h)
  all_goals (try simp_all)
set_option maxHeartbeats 1000000 in
theorem ask_neq (a b : Ask) (W : World) (ha : a.ts.length = 7) (hb : b.ts.length = 7) : (binOp .neq 30 (.agg (askCells a).toArray) (.agg (askCells b).toArray)).run Try.prog W = .ok (.bool (!decide (a = b))) W := by
  obtain ⟨k, n, ⟨ck, id, tx, ut, ui⟩, v, ts⟩ := a
  obtain ⟨k', n', ⟨ck', id', tx', ut', ui'⟩, v', ts'⟩ := b
  simp only at ha hb
  match ts, ha with
  | [a1, a2, a3, a4, a5, a6, a7], _ =>
  match ts', hb with
  | [b1, b2, b3, b4, b5, b6, b7], _ =>
  unfold askCells askHead strs
  simp only [Ask.mk.injEq, Chg.mk.injEq, List.cons.injEq, and_true, List.map_cons, List.map_nil, List.cons_append, List.nil_append]
  simp [go_sem, text_iff, Int.natCast_inj, UInt8.toNat_inj]
  refine dite (k = k') (fun h => ?_) (fun h => by simp [h])
  subst h
  rw [if_pos rfl]
  refine dite (n = n') (fun h => ?_) (fun h => by simp [h])
  subst h
  rw [if_pos rfl]
  refine dite (ck = ck') (fun h => ?_) (fun h => by simp [h])
  subst h
  rw [if_pos rfl]
  refine dite (id = id') (fun h => ?_) (fun h => by simp [h])
  subst h
  rw [if_pos rfl]
  refine dite (tx = tx') (fun h => ?_) (fun h => by simp [h])
  subst h
  rw [if_pos rfl]
  refine dite (ut = ut') (fun h => ?_) (fun h => by simp [h])
  subst h
  rw [if_pos rfl]
  refine dite (ui = ui') (fun h => ?_) (fun h => by simp [h])
  subst h
  rw [if_pos rfl]
  refine dite (v = v') (fun h => ?_) (fun h => by simp [h])
  subst h
  rw [if_pos rfl]
  refine dite (a1 = b1) (fun h => ?_) (fun h => by simp [h])
  subst h
  rw [if_pos rfl]
  refine dite (a2 = b2) (fun h => ?_) (fun h => by simp [h])
  subst h
  rw [if_pos rfl]
  refine dite (a3 = b3) (fun h => ?_) (fun h => by simp [h])
  subst h
  rw [if_pos rfl]
  refine dite (a4 = b4) (fun h => ?_) (fun h => by simp [h])
  subst h
  rw [if_pos rfl]
  refine dite (a5 = b5) (fun h => ?_) (fun h => by simp [h])
  subst h
  rw [if_pos rfl]
  refine dite (a6 = b6) (fun h => ?_) (fun h => by simp [h])
  subst h
  rw [if_pos rfl]
  refine dite (a7 = b7) (fun h => ?_) (fun h => by simp [h])
  subst h
  rw [if_pos rfl]
  simp
end Go.Proofs.Ytiodfbbgbnbdpaa
