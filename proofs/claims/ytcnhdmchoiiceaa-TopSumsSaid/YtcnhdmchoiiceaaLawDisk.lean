/- A disk that came in as an argument, opened. -/
import Derived.Test.YtcnhdmchoiiceaaBox
import Derived.Test.YtcnhdmchoiiceaaSecEnd
import Derived.Lib.SmallJoins
import Derived.Deep.Slices
import Derived.Deep.Fields
import Derived.ChangeSame
import Derived.SliceStrings
namespace Go.Proofs.Ytcnhdmchoiiceaa
open Go.Joins Go.ChangeShapes Go.WideShapes Go.RowKit Go.Deep
section
variable {H : Type} {enc : TypeId × Value → H} {w : World} {n : Nat} {v : Value} {y : DataW H × List MemPlace}
theorem spot_none {a : Addr} {u : Value} (h : w.cell? a = some u) : a = ⟨a.block, a.off, none⟩ := by
  rcases a with ⟨b, o, s⟩
  unfold World.cell? at h
  cases s with
  | none => rfl
  | some s =>
    simp only [Option.isSome_some, if_true] at h
    split at h <;> cases h
theorem slice_weight {P : Program} {t e : TypeId} {elems spare : List (DataW H)} (ht : P.underlying t = some (.slice e)) (hw : ∀ k ∈ (DataW.slice elems spare).weights P t, k ≤ reachBytes) : (elems.length + spare.length) * P.bytesOf e ≤ reachBytes :=
  hw _ (by simp [DataW.weights, ht])
theorem open_texts (h : DataW.trod enc Try.prog w 0 (fun _ => true) true n 22 [v] = some y) :
    ∃ (S : List ByteArray) (A : Option Addr) (c : Nat), v = .slice A S.length c ∧ Texts w A S ∧ ((∀ k ∈ y.1.weights Try.prog 22, k ≤ reachBytes) → S.length * 16 ≤ 140737488351232) := by
  rcases open_strings Try.underlying22 Try.underlying9 (by kernel_rfl) h with ⟨hc, rfl⟩ | ⟨a, len, cap, ss, hc, _, hl, hm, hlen, rfl, hcell, _⟩
  · cases hc
    exact ⟨[], none, 0, rfl, Lies.nil _ _ _, fun _ => by simp⟩
  · cases hc
    simp only [if_true] at hlen
    have hlt : (ss.take len).length = len := by simp; omega
    refine ⟨ss.take len, some a, cap, by rw [hlt], ⟨by rw [strs_length, Nat.mul_one], fun hne => ?_⟩, fun hw => ?_⟩
    · have hpos : 0 < len := by
        rcases Nat.eq_zero_or_pos len with e | e
        · subst e; simp [strs] at hne
        · exact e
      have h0 := hcell 0 (by omega)
      have ha := spot_none h0
      have ha' : a = ⟨a.block, a.off, none⟩ := by
        have : (a.add 0) = a := by simp [Addr.add]
        rw [this] at ha
        exact ha
      refine ⟨a.block, a.off, by rw [← ha'], fun j u hu => ?_⟩
      have hj : j < len := by
        have := (List.getElem?_eq_some_iff.1 hu).1
        rw [strs_length, hlt] at this
        exact this
      have hcj := hcell j (by omega)
      rw [ha', addr_add] at hcj
      rw [hcj]
      simp only [strs, List.getElem?_map, List.getElem?_take, if_pos hj, Option.map_eq_some_iff] at hu
      obtain ⟨s, hs, rfl⟩ := hu
      simp [List.getD, hs]
    · have := slice_weight Try.underlying22 hw
      rw [show Try.prog.bytesOf 9 = 16 by kernel_rfl] at this
      simp only [reachBytes, ChangeShapes.strs, List.length_map, List.length_take, List.length_drop] at this
      simp only [List.length_take]
      omega
set_option maxRecDepth 100000 in
theorem open_writes (h : DataW.trod enc Try.prog w 0 (fun _ => true) true n 23 [v] = some y) :
    ∃ (P : List Wr) (A : Option Addr) (c : Nat), v = .slice A P.length c ∧ Writes w A P ∧ ((∀ k ∈ y.1.weights Try.prog 23, k ≤ reachBytes) → P.length * 24 ≤ 140737488351232) := by
  rcases open_slice Try.underlying23 h with ⟨hc, rfl⟩ | ⟨a, len, cap, m, n', D, Pl, hc, _, hl, hm, hmm, rfl, hi⟩
  · cases hc
    exact ⟨[], none, 0, rfl, Lies.nil _ _ _, fun _ => by simp⟩
  · cases hc
    simp only [if_true] at hmm
    subst hmm
    rw [show Try.prog.cellsOf 43 = 2 by kernel_rfl] at hi
    have each : ∀ i, i < m → ∃ x : Wr, w.cell? (a.add (i * 2)) = some (.int .i64 x.sec) ∧ w.cell? (a.add (i * 2 + 1)) = some (.string x.data) := by
      intro i hi'
      obtain ⟨cs', hcs, ht⟩ := hi i hi'
      obtain ⟨_, hcl, hat⟩ := World.cells?_some hcs
      obtain ⟨ys, n2, hn2, hy, hlen, hyl, hf⟩ := DataW.trod_struct Try.underlying43 ht
      have hsz : cs'.length = 2 := hcl
      match cs', hsz with
      | [u0, u1], _ =>
        have hone : oneCellFields Try.prog (match Try.prog.underlying 43 with | some (.struct fs) => fs | _ => #[]) = true := by kernel_rfl
        rw [Try.underlying43] at hone
        obtain ⟨o0, k0⟩ := hone_of hone 0 _ rfl
        obtain ⟨o1, k1⟩ := hone_of hone 1 _ rfl
        have g0 := hf 0 _ rfl
        have g1 := hf 1 _ rfl
        rw [o0, k0] at g0
        rw [o1, k1] at g1
        simp only [List.drop_zero, List.take_succ_cons, List.take_zero, List.drop_succ_cons] at g0 g1
        have hy0 : ys[0]? = some (ys[0]'(by rw [hyl]; decide)) := List.getElem?_eq_getElem _
        have hy1 : ys[1]? = some (ys[1]'(by rw [hyl]; decide)) := List.getElem?_eq_getElem _
        obtain ⟨z, hz, _, _⟩ := DataW.trod_int Try.underlying3 (g0.trans hy0)
        obtain ⟨s, hs, _, _⟩ := DataW.trod_string Try.underlying9 (g1.trans hy1)
        cases hz
        cases hs
        refine ⟨⟨z, s⟩, ?_, ?_⟩
        · have := hat 0 (by decide)
          simpa [Addr.add] using this
        · have := hat 1 (by decide)
          rw [← Go.Deep.add_add, this]
          rfl
    obtain ⟨f, hf⟩ : ∃ f : Nat → Wr, ∀ i, i < m → w.cell? (a.add (i * 2)) = some (.int .i64 (f i).sec) ∧ w.cell? (a.add (i * 2 + 1)) = some (.string (f i).data) :=
      ⟨fun i => if h : i < m then (each i h).choose else ⟨0, ⟨#[]⟩⟩, fun i h => by simp only [dif_pos h]; exact (each i h).choose_spec⟩
    have hlen : ((List.range len).map f).length = len := by simp
    refine ⟨(List.range len).map f, some a, m, by rw [hlen], ⟨by rw [wrs_length], fun hne => ?_⟩, fun hw => ?_⟩
    · have hpos : 0 < len := by
        rcases Nat.eq_zero_or_pos len with e | e
        · subst e; simp [wrs] at hne
        · exact e
      have ha := spot_none (hf 0 (by omega)).1
      have ha' : a = ⟨a.block, a.off, none⟩ := by
        have : (a.add (0 * 2)) = a := by simp [Addr.add]
        rw [this] at ha
        exact ha
      refine ⟨a.block, a.off, by rw [← ha'], fun j u hu => ?_⟩
      have hj : j < len * 2 := by
        have := (List.getElem?_eq_some_iff.1 hu).1
        rw [wrs_length, hlen] at this
        exact this
      have hk : j / 2 < len := by omega
      obtain ⟨p0, p1⟩ := hf (j / 2) (by omega)
      rw [ha', addr_add] at p0 p1
      obtain ⟨q0, q1⟩ := wrs_get ((List.range len).map f) (j / 2) (by omega)
      rcases (show j = j / 2 * 2 ∨ j = j / 2 * 2 + 1 by omega) with e | e
      · rw [e] at hu ⊢
        rw [q0] at hu
        rw [← hu, p0]
        simp
      · rw [e] at hu ⊢
        rw [q1] at hu
        rw [← hu, p1]
        simp
    · have := slice_weight Try.underlying23 hw
      rw [show Try.prog.bytesOf 43 = 24 by kernel_rfl] at this
      simp only [reachBytes, List.length_map, List.length_range] at this
      simp only [List.length_map, List.length_range]
      omega
theorem open_bools (h : DataW.trod enc Try.prog w 0 (fun _ => true) true n 38 [v] = some y) : ∃ (l : List Bool) (A : Option Addr) (c : Nat), v = .slice A l.length c ∧ Bools w A l ∧ ((∀ k ∈ y.1.weights Try.prog 38, k ≤ reachBytes) → l.length ≤ 140737488351232) := by
  rcases open_slice Try.underlying38 h with ⟨hc, rfl⟩ | ⟨a, len, cap, m, n', D, Pl, hc, _, hl, hm, hmm, rfl, hi⟩
  · cases hc
    exact ⟨[], none, 0, rfl, Lies.nil _ _ _, fun _ => by simp⟩
  · cases hc
    simp only [if_true] at hmm
    subst hmm
    rw [show Try.prog.cellsOf 4 = 1 by kernel_rfl] at hi
    have each : ∀ i, i < m → ∃ x : Bool, w.cell? (a.add i) = some (.bool x) := by
      intro i hi'
      obtain ⟨cs', hcs, ht⟩ := hi i hi'
      obtain ⟨b, rfl, _⟩ := DataW.trod_bool Try.underlying4 ht
      rw [Nat.mul_one] at hcs
      obtain ⟨_, hcl, hat⟩ := World.cells?_some hcs
      have := hat 0 (by decide)
      exact ⟨b, by simpa [Addr.add] using this⟩
    obtain ⟨f, hf⟩ : ∃ f : Nat → Bool, ∀ i, i < m → w.cell? (a.add i) = some (.bool (f i)) :=
      ⟨fun i => if h : i < m then (each i h).choose else false, fun i h => by simp only [dif_pos h]; exact (each i h).choose_spec⟩
    have hlen : ((List.range len).map f).length = len := by simp
    refine ⟨(List.range len).map f, some a, m, by rw [hlen], ⟨by simp [bools], fun hne => ?_⟩, fun hw => ?_⟩
    · have hpos : 0 < len := by
        rcases Nat.eq_zero_or_pos len with e | e
        · subst e; simp [bools] at hne
        · exact e
      have ha := spot_none (hf 0 (by omega))
      have ha' : a = ⟨a.block, a.off, none⟩ := by
        have : (a.add 0) = a := by simp [Addr.add]
        rw [this] at ha
        exact ha
      refine ⟨a.block, a.off, by rw [← ha'], fun j u hu => ?_⟩
      have hj : j < len := by
        have := (List.getElem?_eq_some_iff.1 hu).1
        simpa [bools] using this
      have p0 := hf j (by omega)
      rw [ha', addr_add] at p0
      rw [p0, ← hu]
      simp [bools, hj]
    · have := slice_weight Try.underlying38 hw
      rw [show Try.prog.bytesOf 4 = 1 by kernel_rfl] at this
      simp only [reachBytes, List.length_map, List.length_range] at this
      simp only [List.length_map, List.length_range]
      omega
theorem open_disk {b0 : Nat} {d : DataW H} {p : List MemPlace} (hv : Value.okWide Try.prog w .any b0 25 v) (h : DataW.Trod enc Try.prog w 0 (fun _ => true) true 25 v d p) :
    ∃ (D : Dk) (A1 : Option Addr) (c1 : Nat) (A2 : Option Addr) (c2 : Nat), v = .agg #[.slice A1 D.secs.length c1, .slice A2 D.pend.length c2, .bool D.off, .int .i64 D.fuse] ∧ Texts w A1 D.secs ∧ Writes w A2 D.pend ∧ (-9223372036854775808 ≤ D.fuse ∧ D.fuse ≤ 9223372036854775807) ∧
      ((∀ k ∈ d.weights Try.prog 25, k ≤ reachBytes) → D.secs.length * 16 ≤ 140737488351232 ∧ D.pend.length * 24 ≤ 140737488351232) := by
  obtain ⟨v0, v1, v2, v3, y0, y1, y2, y3, n, rfl, rfl, rfl, h0, h1, h2, h3⟩ := open_agg4 Try.underlying25 (by kernel_rfl) (by kernel_rfl) hv h
  obtain ⟨S, A1, c1, rfl, t1, z1⟩ := open_texts h0
  obtain ⟨P, A2, c2, rfl, t2, z2⟩ := open_writes h1
  obtain ⟨off, e2, _⟩ := DataW.trod_bool Try.underlying4 h2
  obtain ⟨fuse, e3, _, wf⟩ := DataW.trod_int Try.underlying3 h3
  cases e2
  cases e3
  refine ⟨⟨S, P, off, fuse⟩, A1, c1, A2, c2, rfl, t1, t2, bnd_i64 wf, fun hw => ⟨z1 fun k hk => hw k ?_, z2 fun k hk => hw k ?_⟩⟩
  · simp only [DataW.weights, Try.underlying25, DataW.weightsEach, List.map_cons, List.mem_append]
    exact .inl hk
  · simp only [DataW.weights, Try.underlying25, DataW.weightsEach, List.map_cons, List.mem_append]
    exact .inr (.inl hk)
theorem open_keep {b0 : Nat} {d : DataW H} {p : List MemPlace} (hv : Value.okWide Try.prog w .any b0 38 v) (h : DataW.Trod enc Try.prog w 0 (fun _ => true) true 38 v d p) :
    ∃ (l : List Bool) (A : Option Addr) (c : Nat), v = .slice A l.length c ∧ Bools w A l ∧ ((∀ k ∈ d.weights Try.prog 38, k ≤ reachBytes) → l.length ≤ 140737488351232) := by
  obtain ⟨fuel, hf⟩ := h
  obtain ⟨A, n', c, rfl⟩ := okWide_slice Try.underlying38 hv
  exact open_bools hf
end
end Go.Proofs.Ytcnhdmchoiiceaa
