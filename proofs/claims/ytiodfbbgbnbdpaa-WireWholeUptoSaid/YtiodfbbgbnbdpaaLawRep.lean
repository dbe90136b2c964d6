/- A reply that came in as an argument, opened. -/
import Derived.Test.YtiodfbbgbnbdpaaWReply
import Derived.Test.YtiodfbbgbnbdpaaLawAsk
import Derived.SliceStrings
namespace Go.Proofs.Ytiodfbbgbnbdpaa
open Go.Joins Go.ChangeShapes Go.WideShapes Go.RowKit Go.Deep
set_option linter.unusedVariables false
set_option linter.unusedSimpArgs false
theorem spot_no {w : World} {a : Addr} {u : Value} (h : w.cell? a = some u) : a = ⟨a.block, a.off, none⟩ := by
  rcases a with ⟨b, o, s⟩
  unfold World.cell? at h
  cases s with
  | none => rfl
  | some s =>
    simp only [Option.isSome_some, if_true] at h
    split at h <;> cases h
theorem cell_lt {w : World} {b o : Nat} {u : Value} (h : w.cell? ⟨b, o, none⟩ = some u) : b < w.heap.size := by
  by_cases hb : b < w.heap.size
  · exact hb
  · unfold World.cell? at h
    rw [Array.getElem?_eq_none (by simpa using hb)] at h
    simp at h
theorem depth_eq : Try.prog.depth = Try.prog.depth - 1 + 1 := by kernel_rfl
theorem no_lies (d d' count off n : Nat) : liesAt Try.prog (d + 1) 5 count off 9 n = (rowAt Try.prog (sameLayout Try.prog Try.prog.depth · 9) Try.prog.depth 5 count off n || false) := by
  unfold liesAt
  rw [Try.underlying9]
theorem no_row (count off n : Nat) : rowAt Try.prog (sameLayout Try.prog Try.prog.depth · 9) Try.prog.depth 5 count off n = false := by
  have hs : sameLayout Try.prog Try.prog.depth 5 9 = false := by kernel_rfl
  have hc : Try.prog.cellsOf 5 = 1 := by kernel_rfl
  rw [show ∀ f, rowAt Try.prog f Try.prog.depth = rowAt Try.prog f (Try.prog.depth - 1 + 1) from fun f => by rw [← depth_eq]]
  unfold rowAt
  rw [hc]
  simp only [hs, Try.underlying5]
  simp
theorem small_has {w : World} {r : Reach} {base : Nat} {a : Addr} {n : Nat} (h : w.has Try.prog r base a 9 n) : Small w a.block := by
  obtain ⟨_, _, row, cells, hsh, hl⟩ := h
  intro cs fz hc
  have hs : w.shape? a.block = some (5, cs.size) := by simp [World.shape?, hc]
  rw [hs] at hsh
  cases hsh
  rw [depth_eq, no_lies _ 0, no_row] at hl
  cases hl
section
variable {H : Type} {enc : TypeId × Value → H} {w : World} {n : Nat} {v : Value} {y : DataW H × List MemPlace}
theorem bulk_strs (l : List ByteArray) : l.length ≤ Rows.uptoBulkAll (Go.ChangeShapes.strs (H := H) l) ∧ ∀ t ∈ l, t.size < Rows.uptoBulkAll (Go.ChangeShapes.strs (H := H) l) := by
  induction l with
  | nil => exact ⟨Nat.zero_le _, fun t h => by cases h⟩
  | cons s l ih =>
    have e : Rows.uptoBulkAll (Go.ChangeShapes.strs (H := H) (s :: l)) = s.data.toList.length + 1 + Rows.uptoBulkAll (Go.ChangeShapes.strs (H := H) l) := rfl
    have hs : s.size = s.data.toList.length := by simp
    rw [e]
    refine ⟨by simp only [List.length_cons]; omega, fun t ht => ?_⟩
    rcases List.mem_cons.1 ht with rfl | ht
    · omega
    · have := ih.2 t ht; omega
theorem open_texts2 (h : DataW.trod enc Try.prog w 0 (fun _ => true) true n 40 [v] = some y) :
    ∃ (S : List ByteArray) (A : Option Addr) (c : Nat), v = .slice A S.length c ∧ Texts w A S ∧ (S ≠ [] → ∃ a, A = some a ∧ a = ⟨a.block, a.off, none⟩ ∧ a.block < w.heap.size) ∧ S.length ≤ Rows.uptoBulk y.1 ∧ ∀ t ∈ S, t.size < Rows.uptoBulk y.1 := by
  rcases open_strings Try.underlying40 Try.underlying9 (by kernel_rfl) h with ⟨hc, rfl⟩ | ⟨a, len, cap, ss, hc, _, hl, hm, hlen, rfl, hcell, _⟩
  · cases hc
    exact ⟨[], none, 0, rfl, Lies.nil _ _ _, fun h => absurd rfl h, Nat.zero_le _, fun t h => by cases h⟩
  · cases hc
    simp only [if_true] at hlen
    have hlt : (ss.take len).length = len := by simp; omega
    have hbk := bulk_strs (H := H) (ss.take len)
    have ha' : 0 < len → a = ⟨a.block, a.off, none⟩ ∧ a.block < w.heap.size := fun hpos => by
      have h0 := hcell 0 (by omega)
      have ha := spot_no h0
      have e0 : (a.add 0) = a := by simp [Addr.add]
      rw [e0] at ha h0
      refine ⟨ha, ?_⟩
      rw [ha] at h0
      exact cell_lt h0
    refine ⟨ss.take len, some a, cap, by rw [hlt], ⟨by rw [strs_length, Nat.mul_one], fun hne => ?_⟩, fun hne => ?_, ?_, fun t ht => ?_⟩
    · have hpos : 0 < len := by
        rcases Nat.eq_zero_or_pos len with e | e
        · subst e; simp [strs] at hne
        · exact e
      obtain ⟨ha, _⟩ := ha' hpos
      refine ⟨a.block, a.off, by rw [← ha], fun j u hu => ?_⟩
      have hj : j < len := by
        have := (List.getElem?_eq_some_iff.1 hu).1
        rw [strs_length, hlt] at this
        exact this
      have hcj := hcell j (by omega)
      rw [ha, addr_add] at hcj
      rw [hcj]
      simp only [strs, List.getElem?_map, List.getElem?_take, if_pos hj, Option.map_eq_some_iff] at hu
      obtain ⟨s, hs, rfl⟩ := hu
      simp [List.getD, hs]
    · have hpos : 0 < len := by
        rcases Nat.eq_zero_or_pos len with e | e
        · subst e; simp at hne
        · exact e
      obtain ⟨ha, hb⟩ := ha' hpos
      exact ⟨a, rfl, ha, hb⟩
    · show _ ≤ Rows.uptoBulkAll _ + Rows.uptoBulkAll _ + 1
      omega
    · have := hbk.2 t ht
      show _ < Rows.uptoBulkAll _ + Rows.uptoBulkAll _ + 1
      omega
theorem kBool : Try.prog.cellsOf 4 = 1 := by kernel_rfl
theorem kInt : Try.prog.cellsOf 3 = 1 := by kernel_rfl
theorem kErr : Try.prog.cellsOf 31 = 1 := by kernel_rfl
theorem kTxs : Try.prog.cellsOf 40 = 1 := by kernel_rfl
theorem kDec : Try.prog.cellsOf 42 = 3 := by kernel_rfl
theorem kRep : Try.prog.cellsOf 44 = 6 := by kernel_rfl
theorem typesRep : Try.prog.cellTypes Try.prog.depth 44 = some [31, 23, 3, 4, 40, 40] := by kernel_rfl
set_option maxRecDepth 100000 in
theorem small_row {b0 len cap : Nat} {A : Option Addr} (h : Cell.okWide Try.prog w .any b0 40 (.slice A len cap)) (a : Addr) (ha : A = some a) : Small w a.block := by
  subst ha
  unfold Cell.okWide at h
  rw [Try.underlying40] at h
  simp only at h
  unfold Cell.ok at h
  rw [Try.underlying40] at h
  exact small_has h.2.2
set_option maxRecDepth 100000 in
theorem open_reply {b0 : Nat} {v : Value} {d : DataW H} {p : List MemPlace} (hv : Value.okWide Try.prog w .any b0 44 v) (h : DataW.Trod enc Try.prog w 0 (fun _ => true) true 44 v d p) :
    ∃ (r : Rep) (adi ade : Option Addr) (capi cape : Nat), v = .agg #[.int .i64 r.why, .int .u64 (r.n : Int), .int .i64 r.pl, .bool r.al, .slice adi r.ids.length capi, .slice ade r.er.length cape] ∧ r.n < 18446744073709551616 ∧
      Texts w adi r.ids ∧ Texts w ade r.er ∧ SmallAt w adi r.ids ∧ SmallAt w ade r.er ∧ (Rows.uptoBulk d ≤ 1048576 → (∀ t ∈ r.ids, t.size < 16777216) ∧ (∀ t ∈ r.er, t.size < 16777216) ∧ r.ids.length ≤ 1048576 ∧ r.er.length ≤ 1048576) := by
  have hv' := hv
  obtain ⟨cs, rfl, hsz⟩ := okWide_struct Try.underlying44 hv
  have hrow : Row.okWide Try.prog w .any b0 44 cs := by
    unfold Value.okWide at hv'
    rw [Try.underlying44] at hv'
    obtain ⟨cs', e, _, hr⟩ := hv'
    cases e
    exact hr
  obtain ⟨ts, hts, _, hcells⟩ := hrow
  rw [typesRep] at hts
  cases hts
  obtain ⟨fuel, hf⟩ := h
  obtain ⟨l⟩ := cs
  rw [kRep] at hsz
  match l, hsz with
  | [c0, c1, c2, c3, c4, c5], _ =>
  obtain ⟨u4, hu4, ok4⟩ := hcells 4 c4 rfl
  obtain ⟨u5, hu5, ok5⟩ := hcells 5 c5 rfl
  cases hu4
  cases hu5
  obtain ⟨ys, m, _, hx, hl, hlen, hff⟩ := DataW.trod_struct Try.underlying44 hf
  match ys, hlen with
  | [y0, y1, y2, y3], _ =>
  have h0 := hff 0 _ rfl
  have h1 := hff 1 _ rfl
  have h2 := hff 2 _ rfl
  have h3 := hff 3 _ rfl
  simp [Value.cells, kErr, kU64, kInt, kDec] at h0 h1 h2 h3
  obtain ⟨z0, ez0, rfl, wf0⟩ := DataW.trod_int Try.underlying31 h0
  obtain ⟨z1, ez1, rfl, wf1⟩ := DataW.trod_int Try.underlying23 h1
  obtain ⟨z2, ez2, rfl, wf2⟩ := DataW.trod_int Try.underlying3 h2
  obtain ⟨ws, m3, _, hx3, hl3, hlen3, hff3⟩ := DataW.trod_struct Try.underlying42 h3
  match ws, hlen3 with
  | [x0, x1, x2], _ =>
  have g0 := hff3 0 _ rfl
  have g1 := hff3 1 _ rfl
  have g2 := hff3 2 _ rfl
  simp [kBool, kTxs] at g0 g1 g2
  obtain ⟨z3, ez3, rfl⟩ := DataW.trod_bool Try.underlying4 g0
  obtain ⟨S, A, c, rfl, tS, sS, bS, zS⟩ := open_texts2 g1
  obtain ⟨R, A', c', rfl, tR, sR, bR, zR⟩ := open_texts2 g2
  obtain ⟨nn, rfl, hn⟩ := nat_u64 wf1
  cases ez0
  cases ez1
  cases ez2
  cases ez3
  refine ⟨⟨z0, nn, z2, z3, S, R⟩, A, A', c, c', rfl, hn, tS, tR, fun hne b o' e => ?_, fun hne b o' e => ?_, fun hb => ?_⟩
  · obtain ⟨a, ea, _, hlt⟩ := sS hne
    have ha : a = ⟨b, o', none⟩ := by rw [ea] at e; exact Option.some.inj e
    have := small_row ok4 a ea
    rw [ha] at this hlt
    exact ⟨hlt, this⟩
  · obtain ⟨a, ea, _, hlt⟩ := sR hne
    have ha : a = ⟨b, o', none⟩ := by rw [ea] at e; exact Option.some.inj e
    have := small_row ok5 a ea
    rw [ha] at this hlt
    exact ⟨hlt, this⟩
  · injection hx with hd _
    rw [hd] at hb
    rw [hx3] at hb
    simp only [List.map_cons, List.map_nil, Rows.uptoBulk, Rows.uptoBulkAll] at hb
    exact ⟨fun t ht => by have := zS t ht; omega, fun t ht => by have := zR t ht; omega, by show S.length ≤ _; omega, by show R.length ≤ _; omega⟩
end
end Go.Proofs.Ytiodfbbgbnbdpaa
