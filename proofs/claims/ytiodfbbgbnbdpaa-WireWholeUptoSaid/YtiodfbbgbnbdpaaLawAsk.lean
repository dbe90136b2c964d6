/- A request that came in as an argument, opened. -/
import Derived.Test.YtiodfbbgbnbdpaaGC
import Derived.Test.YtiodfbbgbnbdpaaRows
import Derived.Lib.SmallJoins
import Derived.Deep.Slices
import Derived.Deep.Fields
import Derived.ChangeSame
namespace Go.Proofs.Ytiodfbbgbnbdpaa
open Go.Joins Go.ChangeShapes Go.WideShapes Go.RowKit Go.Deep
set_option linter.unusedVariables false
set_option linter.unusedSimpArgs false
theorem kU8 : Try.prog.cellsOf 22 = 1 := by kernel_rfl
theorem kC8 : Try.prog.cellsOf 24 = 1 := by kernel_rfl
theorem kU64 : Try.prog.cellsOf 23 = 1 := by kernel_rfl
theorem kStr : Try.prog.cellsOf 9 = 1 := by kernel_rfl
theorem kCh : Try.prog.cellsOf 28 = 5 := by kernel_rfl
theorem kUid : Try.prog.cellsOf 26 = 2 := by kernel_rfl
theorem kAsk : Try.prog.cellsOf 30 = 15 := by kernel_rfl
section
variable {H : Type} {enc : TypeId × Value → H} {w : World} {n : Nat}
theorem open_uid {x y : Value} {r : DataW H × List MemPlace} (h : DataW.trod enc Try.prog w 0 (fun _ => true) true n 26 [x, y] = some r) : ∃ a b : ByteArray, x = .string a ∧ y = .string b ∧ r.1 = .agg [.lit (.string a.data.toList), .lit (.string b.data.toList)] := by
  obtain ⟨ys, m, _, rfl, hl, hlen, hf⟩ := DataW.trod_struct Try.underlying26 h
  match ys, hlen with
  | [y0, y1], _ =>
  have h0 := hf 0 _ rfl
  have h1 := hf 1 _ rfl
  simp [kStr] at h0 h1
  obtain ⟨a, ea, rfl, _⟩ := DataW.trod_string Try.underlying9 h0
  obtain ⟨b, eb, rfl, _⟩ := DataW.trod_string Try.underlying9 h1
  cases ea
  cases eb
  exact ⟨a, b, rfl, rfl, rfl⟩
theorem open_ch {x0 x1 x2 x3 x4 : Value} {r : DataW H × List MemPlace} (h : DataW.trod enc Try.prog w 0 (fun _ => true) true n 28 [x0, x1, x2, x3, x4] = some r) : ∃ c : Chg, [x0, x1, x2, x3, x4] = chCells c ∧ r.1 = .agg [.lit (.int .u8 (c.k.toNat : Int)), .lit (.string c.id.data.toList), .lit (.string c.tx.data.toList), .agg [.lit (.string c.ut.data.toList), .lit (.string c.ui.data.toList)]] := by
  obtain ⟨ys, m, _, rfl, hl, hlen, hf⟩ := DataW.trod_struct Try.underlying28 h
  match ys, hlen with
  | [y0, y1, y2, y3], _ =>
  have h0 := hf 0 _ rfl
  have h1 := hf 1 _ rfl
  have h2 := hf 2 _ rfl
  have h3 := hf 3 _ rfl
  simp [kStr, kC8, kUid] at h0 h1 h2 h3
  obtain ⟨z, ez, rfl, wf⟩ := DataW.trod_int Try.underlying24 h0
  obtain ⟨a, ea, rfl, _⟩ := DataW.trod_string Try.underlying9 h1
  obtain ⟨b, eb, rfl, _⟩ := DataW.trod_string Try.underlying9 h2
  obtain ⟨c, d, ec, ed, e3⟩ := open_uid h3
  obtain ⟨k, rfl, hk⟩ := nat_u8 wf
  cases ez
  cases ea
  cases eb
  subst ec
  subst ed
  obtain ⟨d3, p3⟩ := y3
  simp only at e3
  subst e3
  refine ⟨⟨UInt8.ofNat k, a, b, c, d⟩, ?_, ?_⟩
  · unfold chCells
    rw [show (UInt8.ofNat k).toNat = k by simp; omega]
  · simp only [List.map_cons, List.map_nil]
    rw [show (UInt8.ofNat k).toNat = k by simp; omega]
set_option maxRecDepth 100000 in
theorem open_ask {b0 : Nat} {v : Value} {d : DataW H} {p : List MemPlace} (hv : Value.okWide Try.prog w .any b0 30 v) (h : DataW.Trod enc Try.prog w 0 (fun _ => true) true 30 v d p) :
    ∃ a : Ask, v = .agg (askCells a).toArray ∧ a.ts.length = 7 ∧ a.n < 18446744073709551616 ∧ a.v < 18446744073709551616 ∧ (Rows.uptoBulk d ≤ 1048576 → (∀ t ∈ a.ts, t.size < 16777216) ∧ a.c.id.size < 16777216 ∧ a.c.tx.size < 16777216 ∧ a.c.ut.size < 16777216 ∧ a.c.ui.size < 16777216) := by
  obtain ⟨cs, rfl, hsz⟩ := okWide_struct Try.underlying30 hv
  obtain ⟨fuel, hf⟩ := h
  obtain ⟨l⟩ := cs
  rw [kAsk] at hsz
  match l, hsz with
  | [c0, c1, c2, c3, c4, c5, c6, c7, c8, c9, c10, c11, c12, c13, c14], _ =>
  obtain ⟨ys, m, _, hx, hl, hlen, hff⟩ := DataW.trod_struct Try.underlying30 hf
  match ys, hlen with
  | [y0, y1, y2, y3, y4, y5, y6, y7], _ =>
  have h0 := hff 0 _ rfl
  have h1 := hff 1 _ rfl
  have h2 := hff 2 _ rfl
  have h3 := hff 3 _ rfl
  have h4 := hff 4 _ rfl
  have h5 := hff 5 _ rfl
  have h6 := hff 6 _ rfl
  have h7 := hff 7 _ rfl
  simp [Value.cells, kStr, kU8, kU64, kCh, kUid] at h0 h1 h2 h3 h4 h5 h6 h7
  obtain ⟨z0, ez0, rfl, wf0⟩ := DataW.trod_int Try.underlying22 h0
  obtain ⟨z1, ez1, rfl, wf1⟩ := DataW.trod_int Try.underlying23 h1
  obtain ⟨c, ec, e2⟩ := open_ch h2
  obtain ⟨z3, ez3, rfl, wf3⟩ := DataW.trod_int Try.underlying23 h3
  obtain ⟨s1, s2, e41, e42, e4⟩ := open_uid h4
  obtain ⟨s3, s4, e51, e52, e5⟩ := open_uid h5
  obtain ⟨s5, s6, e61, e62, e6⟩ := open_uid h6
  obtain ⟨s7, e7, rfl, _⟩ := DataW.trod_string Try.underlying9 h7
  obtain ⟨k, rfl, hk⟩ := nat_u8 wf0
  obtain ⟨nn, rfl, hn⟩ := nat_u64 wf1
  obtain ⟨vv, rfl, hvv⟩ := nat_u64 wf3
  cases ez0
  cases ez1
  cases ez3
  cases e7
  subst e41 e42 e51 e52 e61 e62
  obtain ⟨d2, p2⟩ := y2
  obtain ⟨d4, p4⟩ := y4
  obtain ⟨d5, p5⟩ := y5
  obtain ⟨d6, p6⟩ := y6
  simp only at e2 e4 e5 e6
  subst e2 e4 e5 e6
  simp only [chCells, List.cons.injEq, and_true] at ec
  obtain ⟨rfl, rfl, rfl, rfl, rfl⟩ := ec
  refine ⟨⟨UInt8.ofNat k, nn, c, vv, [s1, s2, s3, s4, s5, s6, s7]⟩, ?_, rfl, hn, hvv, fun hb => ?_⟩
  · unfold askCells askHead
    simp only [strs, List.map_cons, List.map_nil, List.cons_append, List.nil_append]
    rw [show (UInt8.ofNat k).toNat = k by simp; omega]
  · injection hx with hd _
    rw [hd] at hb
    simp only [List.map_cons, List.map_nil, Rows.uptoBulk, Rows.uptoBulkAll, Array.length_toList] at hb
    have hs : ∀ s : ByteArray, s.size = s.data.size := fun _ => rfl
    refine ⟨fun t ht => ?_, ?_, ?_, ?_, ?_⟩
    · simp only [List.mem_cons, List.not_mem_nil, or_false] at ht
      rcases ht with rfl | rfl | rfl | rfl | rfl | rfl | rfl <;> (rw [hs]; omega)
    all_goals (simp only [hs]; omega)
end
end Go.Proofs.Ytiodfbbgbnbdpaa
