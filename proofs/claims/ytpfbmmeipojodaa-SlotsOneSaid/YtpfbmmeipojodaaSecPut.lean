/- What a put refuses, what it does always; the small callbacks. -/
import Derived.Test.YtpfbmmeipojodaaSecDrive2
import Derived.Deep.RegionHeld3
namespace Go.Proofs.Ytpfbmmeipojodaa
open Go.RowKit
/-- A drive whose writes that wait are its own too. -/
def Drive (w : World) (base X : Nat) (d : Dk) : Prop := ∃ sv pv, At w base X sv pv d ∧ w.ownsRow base 66 2 pv d.pend.length (wrs d.pend)
/-- What a put is refused for. -/
def refE (d : Dk) (n : Int) (data : ByteArray) : Int := if there d.secs n = false then 1 else if data.size ≠ 64 then 3 else if 4096 ≤ d.pend.length then 2 else 0
theorem At.below {w w' : World} {base X : Nat} {sv pv : Value} {d : Dk} (h : At w base X sv pv d) (hb : Below w.heap.size w w') : At w' base X sv pv d := ⟨h.blk.below hb, own_below h.own hb, h.low⟩
theorem Drive.below {w w' : World} {base X : Nat} {d : Dk} (h : Drive w base X d) (hb : Below w.heap.size w w') : Drive w' base X d := by
  obtain ⟨sv, pv, h1, h2⟩ := h
  exact ⟨sv, pv, h1.below hb, own_below h2 hb⟩
theorem nothing_w (v : Value) (w : World) : Calls Try.prog 82 #[v] w fun e w' => e = .returned (.tuple #[]) ∧ w = w' := by
  go_enter Try.func82, Try.ntmps82
  go_wp2
  go_end0
  exact ⟨rfl, rfl⟩
theorem fine_w (v : Value) (w : World) : Calls Try.prog 84 #[v] w fun e w' => e = .returned (.int .i64 0) ∧ w = w' := by
  go_enter Try.func84, Try.ntmps84
  go_wp2
  go_ret
  exact ⟨rfl, rfl⟩
theorem all_w (v : Value) (w : World) : Calls Try.prog 86 #[v] w fun e w' => e = .returned (.bool true) ∧ Below w.heap.size w w' := by
  go_enter Try.func86, Try.ntmps86
  go_wp2
  go_ret
  exact ⟨rfl, Below.refl _ _⟩
set_option maxRecDepth 100000 in
set_option maxHeartbeats 1000000 in
theorem refuses_w (n : Int) (data : ByteArray) (base X : Nat) (d : Dk) (w : World) (hd : Drive w base X d) (hl : d.pend.length ≤ 140737488351232) :
    Calls Try.prog 80 #[.agg #[.int .i64 n, .string data], .pointer (some ⟨X, 0, none⟩)] w fun e w' => e = .returned (.int .i64 (refE d n data)) ∧ Below w.heap.size w w' := by
  obtain ⟨sv, pv, h1, h2⟩ := hd
  obtain ⟨A1, c1, rfl, _, _, hs, _⟩ := Lies.of_own h1.own
  obtain ⟨A2, c2, rfl, _, _, hp, _⟩ := Lies.of_own h2
  have hx := h1.blk
  have hx1 := hx.alloc (.cells #[.int .i64 n, .string data] 133)
  have hb1 := below_alloc w (.cells #[.int .i64 n, .string data] 133)
  have hk := Blk.new w [.int .i64 n, .string data] 133
  have e0 := hx1.cell 0
  have e1 := hx1.cell 1
  have e2 := hx1.cell 2
  have e3 := hx1.cell 3
  have k0 := hk.cell 0
  have k1 := hk.cell 1
  have lX : X < w.heap.size + 1 := by have := hx.lt; omega
  go_enter Try.func80, Try.ntmps80
  go_wp2_with fail
  go_region_held3 (fun w' => w'.cell? ⟨X, 0, none⟩ = some (.slice A1 d.secs.length c1) ∧ w'.cell? ⟨X, 1, none⟩ = some (.slice A2 d.pend.length c2) ∧ w'.cell? ⟨X, 2, none⟩ = some (.bool d.off) ∧ w'.cell? ⟨X, 3, none⟩ = some (.int .i64 d.fuse) ∧
      w'.cell? ⟨w.heap.size, 0, none⟩ = some (.int .i64 n) ∧ w'.cell? ⟨w.heap.size, 1, none⟩ = some (.string data))
    (first
      | go_keep
      | (go_split_ands
         refine ⟨?_, ?_, ?_, ?_, ?_, ?_⟩ <;> (rw [hb2.cell (by first | omega | (simp; done) | (simp; omega))]; assumption)))
    ((go_at_call 38; refine (there_w A1 A2 c1 d.pend.length c2 d.secs d.off d.fuse n _).mono ?_; rintro e w2 ⟨rfl, hb2⟩))
  have hb3 : Below w.heap.size w w2 := bt hb1.drew hb2
  go_split_ands
  clear e0 e1 e2 e3 k0 k1 hx1 hk hx hb1 hb2
  go_wp2
  all_goals (try go_ret)
  all_goals (refine ⟨ret_int ?_, hb3⟩)
  all_goals simp_all [refE]
  all_goals omega
theorem always_end {n : Int} {data : ByteArray} {base X gg cap : Nat} {d : Dk} {w w0 w1 : World} {sv pv : Value} (h1 : At w base X sv pv d) (h2 : w.ownsRow base 66 2 pv d.pend.length (wrs d.pend))
    (hb : Below w.heap.size w w0) (hbase : base ≤ w.heap.size)
    (hown1 : w1.ownsRow base 66 2 (.slice (some ⟨gg, 0, none⟩) (d.pend.length + 1) cap) (d.pend.length + 1) (wrs d.pend ++ [.int .i64 n, .string data])) (hgrow : w0.grownBy w1 pv.ownBlock) :
    Drive (w1.setCell ⟨X, 1, none⟩ (.slice (some ⟨gg, 0, none⟩) (d.pend.length + 1) cap)) base X { d with pend := d.pend ++ [⟨n, data⟩] } ∧ Below base w (w1.setCell ⟨X, 1, none⟩ (.slice (some ⟨gg, 0, none⟩) (d.pend.length + 1) cap)) := by
  have h1' := h1.below hb
  have h2' := own_below h2 hb
  have hpX := own_blk_ne h2' h1'.blk (by decide)
  have hx1 : Blk w1 X [sv, pv, .bool d.off, .int .i64 d.fuse] 70 := (hgrow.block X h1'.blk.lt (Ne.symm hpX)).trans h1'.blk
  have hs1 := h1'.own.kept hgrow (own_ne h1'.own h2' (by decide))
  have hbw : Below base w w1 := (hb.mono hbase).grown hgrow (Nat.le_trans hbase hb.size) (fun k hk => (h2.lt k hk).1)
  refine ⟨⟨sv, .slice (some ⟨gg, 0, none⟩) (d.pend.length + 1) cap, ⟨?_, own_far hs1 (own_blk_ne hs1 hx1 (by decide)) _, h1.low⟩, ?_⟩, hbw.setCell (p := ⟨X, 1, none⟩) h1.low _⟩
  · exact hx1.set 1 _
  · have := own_far hown1 (p := ⟨X, 1, none⟩) (own_blk_ne hown1 hx1 (by decide)) (.slice (some ⟨gg, 0, none⟩) (d.pend.length + 1) cap)
    simp only [List.length_append, List.length_cons, List.length_nil, wrs_append]
    exact this
set_option maxRecDepth 100000 in
set_option maxHeartbeats 1000000 in
theorem always_w (n : Int) (data : ByteArray) (base X : Nat) (d : Dk) (w : World) (hd : Drive w base X d) (hl : d.pend.length ≤ 1000000) :
    Calls Try.prog 81 #[.agg #[.int .i64 n, .string data], .pointer (some ⟨X, 0, none⟩)] w fun e w' => e = .returned (.tuple #[]) ∧ Drive w' base X { d with pend := d.pend ++ [⟨n, data⟩] } ∧ Below base w w' := by
  obtain ⟨sv, pv, h1, h2⟩ := hd
  have hx := h1.blk
  have hx1 := hx.alloc (.cells #[.int .i64 n, .string data] 133)
  have hb1 := below_alloc w (.cells #[.int .i64 n, .string data] 133)
  have hk := Blk.new w [.int .i64 n, .string data] 133
  obtain ⟨i0, hi, hz0, hz1, hz2⟩ := info_parts Try.info66
  have e0 := hx1.cell 1
  have k0 := hk.cell 0
  have k1 := hk.cell 1
  have fX := hx1.free 1
  have lX : X < w.heap.size + 1 := by have := hx.lt; omega
  have hpX := own_blk_ne h2 hx (by decide)
  have low := h1.low
  have lX1 : X < (w.alloc (.cells #[.int .i64 n, .string data] 133)).heap.size := by simp; omega
  have fX2 : ∀ o : Obj, ((w.alloc (.cells #[.int .i64 n, .string data] 133)).alloc o).frozen? ⟨X, 1, none⟩ = false := fun o => by
    rw [World.frozen?_alloc_past _ _ _ lX1]
    exact fX
  have eX2 : (((w.alloc (.cells #[.int .i64 n, .string data] 133)).alloc (.cells #[.int .i64 n, .string data] 66)).drew).cell? ⟨X, 1, none⟩ = some pv := (hx1.alloc _).cell 1
  have hnew : (((w.alloc (.cells #[.int .i64 n, .string data] 133)).alloc (.cells #[.int .i64 n, .string data] 66)).drew).heap[w.heap.size + 1]? = some (.cells #[.int .i64 n, .string data] 66 (0, 0)) := by
    have := heap_alloc_new (w.alloc (.cells #[.int .i64 n, .string data] 133)) (.cells #[.int .i64 n, .string data] 66)
    rw [show (w.alloc (.cells #[.int .i64 n, .string data] 133)).heap.size = w.heap.size + 1 by simp] at this
    exact this
  have hpN : some w.heap.size ≠ pv.ownBlock := fun e => by have := h2.lt _ e.symm; omega
  go_enter Try.func81, Try.ntmps81
  go_wp2_with fail
  go_region_law
    ((refine step_append_lies _ (by rfl) _ _ _ (by rfl) base 66 i0 _ 2 24 Try.underlying26 hi hz0 hz1 hz2 rfl (by omega) pv d.pend.length (wrs d.pend) (by rfl) (((h2.alloc _).alloc _).drew)
        ⟨w.heap.size + 1, 0, none⟩ 1 1 [.int .i64 n, .string data] (by rfl) (by rfl) (World.news_of_block (cs := #[.int .i64 n, .string data]) (t := 66) (fr := (0, 0)) hnew) (by simp [Value.oneCell'])
        (by omega) (by simp only [maxLen]; omega) (by omega) (by simp; omega) (w.heap.size + 2) (by simp) ?_; intro gg cap w1 hown1 hgrow hat hlt
      have z1 := (hgrow.frozen_far ⟨X, 1, none⟩ (by simp; omega) (Ne.symm hpX)).trans ((World.frozen?_drew (w := _) (a := _)).trans (fX2 _))
      have z2 := (hgrow.cell_far ⟨X, 1, none⟩ (by simp; omega) (Ne.symm hpX)).trans eX2))
  all_goals (go_end0; exact ⟨rfl, always_end h1 h2 ((hb1.alloc (by simp) _).drew) (Nat.le_of_lt (Nat.lt_of_le_of_lt low hx.lt)) hown1 hgrow⟩)
end Go.Proofs.Ytpfbmmeipojodaa
