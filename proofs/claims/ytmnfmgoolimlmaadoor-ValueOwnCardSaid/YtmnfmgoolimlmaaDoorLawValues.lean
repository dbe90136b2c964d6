/- Arguments []api.Value, opened. -/
import Derived.Test.YtmnfmgoolimlmaaDoorLawTexts
import Derived.Test.YtmnfmgoolimlmaaDoorVt
import Derived.Lib.SmallJoins
import Derived.Deep.Slices
import Derived.SliceStrings
import Derived.DataReads
namespace Go.Proofs.YtmnfmgoolimlmaaDoor
open Go.Joins Go.ChangeShapes Go.WideShapes Go.RowKit Go.Deep
set_option linter.unusedVariables false
set_option linter.unusedSimpArgs false
theorem qKind : Tryd.prog.cellsOf 35 = 1 := by kernel_rfl
theorem qBool : Tryd.prog.cellsOf 4 = 1 := by kernel_rfl
theorem qI64 : Tryd.prog.cellsOf 2 = 1 := by kernel_rfl
theorem qStr : Tryd.prog.cellsOf 9 = 1 := by kernel_rfl
theorem qStrs : Tryd.prog.cellsOf 32 = 1 := by kernel_rfl
theorem qVals : Tryd.prog.cellsOf 33 = 1 := by kernel_rfl
theorem qVal : Tryd.prog.cellsOf 37 = 7 := by kernel_rfl
theorem qValB : Tryd.prog.bytesOf 37 = 96 := by kernel_rfl
theorem cells_get {w : World} {base : Nat} {a : Addr} {n : Nat} {cs : List Value} (h : w.cells? base a n = some cs) : cs.length = n ∧ ∀ j v, cs[j]? = some v → w.cell? (a.add j) = some v := by
  unfold World.cells? at h
  split at h
  · have hl := mapM_some_length h
    rw [List.length_range] at hl
    refine ⟨hl, fun j v hj => ?_⟩
    have hjn : j < n := by rw [← hl]; exact (List.getElem?_eq_some_iff.1 hj).1
    have := mapM_some_get h j j (by simp [hjn])
    rw [this, hj]
  · cases h
theorem flist7 {r : List Value} (h : r.length = 7) : ∃ a b c d e f g, r = [a, b, c, d, e, f, g] := by
  match r, h with
  | [a, b, c, d, e, f, g], _ => exact ⟨a, b, c, d, e, f, g, rfl⟩
theorem flatget7 {rows : List (List Value)} (h : ∀ r ∈ rows, r.length = 7) : ∀ (j : Nat) (v : Value), rows.flatten[j]? = some v → ∃ r, rows[j / 7]? = some r ∧ r[j % 7]? = some v := by
  induction rows with
  | nil => intro j v h; cases h
  | cons q rows ih =>
    intro j v hv
    have hq := h q (by simp)
    rw [List.flatten_cons] at hv
    rcases Nat.lt_or_ge j 7 with hj | hj
    · rw [List.getElem?_append_left (by omega)] at hv
      exact ⟨q, by rw [Nat.div_eq_of_lt hj]; rfl, by rw [Nat.mod_eq_of_lt hj]; exact hv⟩
    · rw [List.getElem?_append_right (by omega), hq] at hv
      obtain ⟨r, h1, h2⟩ := ih (fun r hr => h r (by simp [hr])) (j - 7) v hv
      refine ⟨r, ?_, ?_⟩
      · rw [show j / 7 = (j - 7) / 7 + 1 by omega, List.getElem?_cons_succ]
        exact h1
      · rw [show j % 7 = (j - 7) % 7 by omega]
        exact h2
section
variable {H : Type} {enc : TypeId × Value → H} {w : World}
set_option maxRecDepth 100000 in
theorem open_txtsT {n : Nat} {cs : List Value} {y : DataW H × List MemPlace} (hf : DataW.trod enc Tryd.prog w 0 (fun _ => true) true n 32 cs = some y) (hw : ∀ k ∈ y.1.weights Tryd.prog 32, k ≤ reachBytes) :
    ∃ (l : List ByteArray) (A : Option Addr) (c : Nat), cs = [.slice A l.length c] ∧ Texts w A l ∧ l.length ≤ c ∧ l.length * 16 ≤ mLen ∧ ∀ x ∈ l, x.size ≤ mLen := by
  obtain ⟨d, pp⟩ := y
  rcases open_strings Tryd.underlying32 Tryd.underlying9 (by kernel_rfl) hf with ⟨hc, hd⟩ | ⟨a, len, cap, ss, hc, _, hl, hm, hlen, hd, hcell, _⟩
  · subst hc
    exact ⟨[], none, 0, rfl, Lies.nil _ _ _, Nat.le_refl _, by decide, fun x h => by cases h⟩
  · subst hc
    simp only [if_true] at hlen
    have hlt : (ss.take len).length = len := by simp; omega
    injection hd with hd _
    rw [hd] at hw
    refine ⟨ss.take len, some a, cap, by rw [hlt], ⟨by rw [strs_length, Nat.mul_one], fun hne => ?_⟩, by rw [hlt]; exact hl, ?_, ?_⟩
    · have hpos : 0 < len := by
        rcases Nat.eq_zero_or_pos len with e | e
        · subst e; simp [strs] at hne
        · exact e
      have h0 := hcell 0 (by omega)
      have ha := spot_plain h0
      have ha' : a = ⟨a.block, a.off, none⟩ := by
        have : (a.add 0) = a := by simp [Addr.add]
        rw [this] at ha
        exact ha
      refine ⟨a.block, a.off, by rw [← ha'], fun j u hu => ?_⟩
      have hj : j < len := by
        have := (List.getElem?_eq_some_iff.1 hu).1
        rw [strs_length, hlt] at this
        exact this
      have hcj := hcell j (by omega)
      rw [ha', addr_add] at hcj
      rw [hcj]
      simp only [strs, List.getElem?_map, List.getElem?_take, if_pos hj, Option.map_eq_some_iff] at hu
      obtain ⟨s, hs, rfl⟩ := hu
      simp [List.getD, hs]
    · have h1 := hw ((((ChangeShapes.strs (ss.take len) : List (DataW H)).length + (ChangeShapes.strs (ss.drop len) : List (DataW H)).length)) * Tryd.prog.bytesOf 9) (by simp [DataW.weights, Tryd.underlying32])
      rw [show Tryd.prog.bytesOf 9 = 16 by kernel_rfl] at h1
      simp only [reachBytes, ChangeShapes.strs, List.length_map, List.length_take, List.length_drop] at h1
      simp only [List.length_take, mLen]
      omega
    · intro x hx
      have h2 : ∀ (l : List ByteArray), x ∈ l → x.data.toList.length ∈ DataW.weightsAll Tryd.prog 9 (ChangeShapes.strs l : List (DataW H)) := by
        intro l
        induction l with
        | nil => intro h; cases h
        | cons y l ih =>
          intro h
          have e : (ChangeShapes.strs (y :: l) : List (DataW H)) = .lit (.string y.data.toList) :: ChangeShapes.strs l := rfl
          rw [e, DataW.weightsAll, DataW.weights]
          rcases List.mem_cons.1 h with rfl | h
          · simp
          · exact List.mem_append_right _ (ih h)
      have h3 := hw x.data.toList.length (by
        rw [DataW.weights, Tryd.underlying32]
        simp only
        exact List.mem_cons_of_mem _ (List.mem_append_left _ (h2 _ hx)))
      have e : x.size = x.data.toList.length := Lib.size_eq x
      rw [e]
      exact h3
theorem weights_each {l : List TypeId} {ds : List (DataW H)} {k : Nat} : ∀ (i : Nat) (t : TypeId) (d : DataW H), l[i]? = some t → ds[i]? = some d → k ∈ d.weights Tryd.prog t → k ∈ DataW.weightsEach Tryd.prog l ds := by
  induction l generalizing ds with
  | nil => intro i t d h; cases h
  | cons t0 l ih =>
    intro i t d hl hd hk
    cases ds with
    | nil => cases hd
    | cons d0 ds =>
      rw [DataW.weightsEach]
      cases i with
      | zero =>
        simp only [List.getElem?_cons_zero, Option.some.injEq] at hl hd
        subst hl hd
        exact List.mem_append_left _ hk
      | succ i =>
        rw [List.getElem?_cons_succ] at hl hd
        exact List.mem_append_right _ (ih i t d hl hd hk)
theorem weights_all {t : TypeId} {ds : List (DataW H)} {k : Nat} {d : DataW H} (hd : d ∈ ds) (hk : k ∈ d.weights Tryd.prog t) : k ∈ DataW.weightsAll Tryd.prog t ds := by
  induction ds with
  | nil => cases hd
  | cons d0 ds ih =>
    rw [DataW.weightsAll]
    rcases List.mem_cons.1 hd with rfl | hd
    · exact List.mem_append_left _ hk
    · exact List.mem_append_right _ (ih hd)
/-- A slice of values, given what is read of each. -/
theorem open_valuesT (N : Nat) (ih : ∀ (n : Nat) (cs : List Value) (y : DataW H × List MemPlace), n < N → DataW.trod enc Tryd.prog w 0 (fun _ => true) true n 37 cs = some y → (∀ k ∈ y.1.weights Tryd.prog 37, k ≤ reachBytes) → ∃ t, VAt w 0 t cs)
    {cs : List Value} {y : DataW H × List MemPlace} (hf : DataW.trod enc Tryd.prog w 0 (fun _ => true) true N 33 cs = some y) (hw : ∀ k ∈ y.1.weights Tryd.prog 33, k ≤ reachBytes) :
    ∃ (l : List Vt) (rows : List (List Value)) (B : Option Addr) (d : Nat), cs = [.slice B l.length d] ∧ Lies w B l.length 7 rows.flatten ∧ VsAt w 0 l rows ∧ l.length ≤ d ∧ l.length * 96 ≤ mLen := by
  rcases DataW.trod_slice Tryd.underlying33 hf with ⟨rfl, rfl⟩ | ⟨a, len, cap, elems, rest, n, rfl, rfl, rfl, _, hl, hm, hlen, hel, -, -⟩
  · exact ⟨[], [], none, 0, rfl, Lies.nil _ _ _, by rw [VsAt], Nat.le_refl _, by decide⟩
  · have hex : ∀ i, i < len → ∃ (r : List Value) (t : Vt), w.cells? 0 (a.add (i * 7)) 7 = some r ∧ VAt w 0 t r := by
      intro i hi
      have h1 := hel i hi
      rw [qVal, List.getElem?_eq_getElem (by omega)] at h1
      obtain ⟨r, hr1, hr2⟩ := Option.bind_eq_some_iff.1 h1
      obtain ⟨t, ht⟩ := ih n r _ (by omega) hr2 (fun k hk => hw k (by
        rw [DataW.weights, Tryd.underlying33]
        simp only
        exact List.mem_cons_of_mem _ (List.mem_append_left _ (weights_all (List.mem_map.2 ⟨_, List.getElem_mem (show i < elems.length by omega), rfl⟩) hk))))
      exact ⟨r, t, hr1, ht⟩
    have hfam : ∀ m, m ≤ len → ∃ (l : List Vt) (rows : List (List Value)), l.length = m ∧ VsAt w 0 l rows ∧ ∀ i r, rows[i]? = some r → w.cells? 0 (a.add (i * 7)) 7 = some r := by
      intro m
      induction m with
      | zero => intro _; exact ⟨[], [], rfl, by rw [VsAt], fun i r h => by cases h⟩
      | succ m ihm =>
        intro hm
        obtain ⟨l, rows, h1, h2, h3⟩ := ihm (by omega)
        obtain ⟨r, t, h4, h5⟩ := hex m (by omega)
        have hrl := (vsAt_len h2).1
        refine ⟨l ++ [t], rows ++ [r], by simp [h1], vsAt_mk (by simp [hrl]) fun i x q hx hq => ?_, fun i q hq => ?_⟩
        · rcases Nat.lt_or_ge i l.length with hi | hi
          · rw [List.getElem?_append_left hi] at hx
            rw [List.getElem?_append_left (by omega)] at hq
            obtain ⟨q', hq', hv⟩ := vsAt_get h2 i x hx
            rw [hq] at hq'
            cases hq'
            exact hv
          · rw [List.getElem?_append_right hi] at hx
            rw [List.getElem?_append_right (by omega), hrl] at hq
            cases hj : i - l.length with
            | zero =>
              rw [hj] at hx hq
              simp only [List.getElem?_cons_zero, Option.some.injEq] at hx hq
              subst hx hq
              exact h5
            | succ j => rw [hj] at hx; cases hx
        · rcases Nat.lt_or_ge i rows.length with hi | hi
          · rw [List.getElem?_append_left hi] at hq
            exact h3 i q hq
          · rw [List.getElem?_append_right hi] at hq
            cases hj : i - rows.length with
            | zero =>
              rw [hj] at hq
              simp only [List.getElem?_cons_zero, Option.some.injEq] at hq
              subst hq
              rw [show i = m by omega]
              exact h4
            | succ j => rw [hj] at hq; cases hq
    obtain ⟨l, rows, h1, h2, h3⟩ := hfam len (Nat.le_refl _)
    have hrl := (vsAt_len h2).1
    refine ⟨l, rows, some a, cap, by rw [h1], ⟨(vsAt_len h2).2, fun hne => ?_⟩, h2, by rw [h1]; exact hl, ?_⟩
    · have h7 := vsAt_all7 h2
      have hpos : 0 < len := by
        rcases Nat.eq_zero_or_pos len with e | e
        · have h9 := (vsAt_len h2).2
          rw [h1, e] at h9
          exact absurd (List.eq_nil_of_length_eq_zero (by simpa using h9)) hne
        · exact e
      obtain ⟨r0, hr0⟩ : ∃ r, rows[0]? = some r := ⟨_, List.getElem?_eq_getElem (by omega)⟩
      obtain ⟨hl0, hc0⟩ := cells_get (h3 0 r0 hr0)
      have h0 := hc0 0 r0[0] (List.getElem?_eq_getElem (by omega))
      have ha' : a = ⟨a.block, a.off, none⟩ := by
        have := spot_plain h0
        simpa [Addr.add] using this
      refine ⟨a.block, a.off, by rw [← ha'], fun j v hj => ?_⟩
      obtain ⟨r, hr1, hr2⟩ := flatget7 h7 j v hj
      obtain ⟨hl1, hc1⟩ := cells_get (h3 _ r hr1)
      have := hc1 _ v hr2
      rw [ha', addr_add, addr_add] at this
      rw [show a.off + j = a.off + j / 7 * 7 + j % 7 by omega]
      exact this
    · have h9 := hw ((elems.map (·.1)).length * 96 + (rest.map (·.1)).length * 96) (by
        rw [DataW.weights, Tryd.underlying33]
        simp only [qValB, Nat.add_mul]
        exact List.mem_cons_self)
      simp only [List.length_map, reachBytes] at h9
      unfold mLen
      omega
set_option maxRecDepth 100000 in
theorem open_valueT : ∀ (N n : Nat) (cs : List Value) (y : DataW H × List MemPlace), n ≤ N → DataW.trod enc Tryd.prog w 0 (fun _ => true) true n 37 cs = some y → (∀ k ∈ y.1.weights Tryd.prog 37, k ≤ reachBytes) → ∃ t, VAt w 0 t cs := by
  intro N
  induction N with
  | zero =>
    intro n cs y hn h
    obtain rfl : n = 0 := by omega
    cases h
  | succ N ih =>
    intro n cs y hn h hw
    obtain ⟨ys, m, rfl, rfl, hl, hlen, hf⟩ := DataW.trod_struct Tryd.underlying37 h
    match ys, hlen with
    | [y0, y1, y2, y3, y4, y5, y6], _ =>
    rw [qVal] at hl
    obtain ⟨c0, c1, c2, c3, c4, c5, c6, rfl⟩ := flist7 hl
    have h0 := hf 0 _ rfl
    have h1 := hf 1 _ rfl
    have h2 := hf 2 _ rfl
    have h3 := hf 3 _ rfl
    have h4 := hf 4 _ rfl
    have h5 := hf 5 _ rfl
    have h6 := hf 6 _ rfl
    simp [qKind, qBool, qI64, qStr, qStrs, qVals] at h0 h1 h2 h3 h4 h5 h6
    have hwi : ∀ (i : Nat) (t : TypeId) (z : DataW H × List MemPlace), ([35, 4, 2, 9, 9, 32, 33] : List TypeId)[i]? = some t → ([y0, y1, y2, y3, y4, y5, y6])[i]? = some z → ∀ k ∈ z.1.weights Tryd.prog t, k ≤ reachBytes := by
      intro i t z ht hz k hk
      refine hw k ?_
      rw [DataW.weights, Tryd.underlying37]
      exact weights_each i t z.1 ht (by rw [List.getElem?_map, hz]; rfl) hk
    obtain ⟨z, ez, rfl, wf⟩ := DataW.trod_int Tryd.underlying35 h0
    obtain ⟨b, eb, rfl⟩ := DataW.trod_bool Tryd.underlying4 h1
    obtain ⟨q, eq_, rfl, wf2⟩ := DataW.trod_int Tryd.underlying2 h2
    obtain ⟨s, es, rfl, -⟩ := DataW.trod_string Tryd.underlying9 h3
    obtain ⟨t, et, rfl, -⟩ := DataW.trod_string Tryd.underlying9 h4
    have w3 := hwi 3 _ _ rfl rfl s.data.toList.length (by simp [DataW.weights])
    have w4 := hwi 4 _ _ rfl rfl t.data.toList.length (by simp [DataW.weights])
    obtain ⟨ns, A, c, e5, hT, hc, hns, hnz⟩ := open_txtsT h5 (hwi 5 _ _ rfl rfl)
    obtain ⟨l, rows, B, d, e6, hL, hV, hd, hls⟩ := open_valuesT m (fun n cs y hn h hw => ih n cs y (by omega) h hw) h6 (hwi 6 _ _ rfl rfl)
    obtain ⟨k, rfl, hk⟩ := nat_u8 wf
    have hq := bnd_i64 wf2
    cases ez
    cases eb
    cases eq_
    cases es
    cases et
    cases e5
    cases e6
    refine ⟨.mk k b q s t ns l, ?_⟩
    rw [VAt]
    have e1 : s.size = s.data.toList.length := Lib.size_eq s
    have e2 : t.size = t.data.toList.length := Lib.size_eq t
    exact ⟨A, c, B, d, rows, rfl, ⟨hk, hq.1, hq.2, by rw [e1]; exact w3, by rw [e2]; exact w4⟩, hT, hnz, ⟨hns, hc, hls, hd⟩, ⟨fun _ _ => Nat.zero_le _, fun _ _ => Nat.zero_le _⟩, hL, hV⟩
set_option maxRecDepth 100000 in
theorem open_values {v : Value} {b0 : Nat} {d : DataW H} {p : List MemPlace} (hv : Value.okWide Tryd.prog w .any b0 33 v) (h : DataW.Trod enc Tryd.prog w 0 (fun _ => true) true 33 v d p) (hw : ∀ k ∈ d.weights Tryd.prog 33, k ≤ reachBytes) :
    ∃ (l : List Vt) (rows : List (List Value)) (B : Option Addr) (c : Nat), v = .slice B l.length c ∧ Lies w B l.length 7 rows.flatten ∧ VsAt w 0 l rows ∧ l.length * 96 ≤ mLen := by
  obtain ⟨fuel, hf⟩ := h
  obtain ⟨A, n', c, rfl⟩ := okWide_slice Tryd.underlying33 hv
  obtain ⟨l, rows, B, d', e, h1, h2, -, h3⟩ := open_valuesT fuel (fun n cs y _ h hw => open_valueT n n cs y (Nat.le_refl _) h hw) hf hw
  cases e
  exact ⟨l, rows, _, _, rfl, h1, h2, h3⟩
set_option maxRecDepth 100000 in
theorem open_names {v : Value} {b0 : Nat} {d : DataW H} {p : List MemPlace} (hv : Value.okWide Tryd.prog w .any b0 32 v) (h : DataW.Trod enc Tryd.prog w 0 (fun _ => true) true 32 v d p) (hw : ∀ k ∈ d.weights Tryd.prog 32, k ≤ reachBytes) :
    ∃ (l : List ByteArray) (A : Option Addr) (c : Nat), v = .slice A l.length c ∧ Texts w A l ∧ (∀ x ∈ l, x.size ≤ mLen) ∧ l.length * 16 ≤ mLen := by
  obtain ⟨fuel, hf⟩ := h
  obtain ⟨A, n', c, rfl⟩ := okWide_slice Tryd.underlying32 hv
  obtain ⟨l, A', c', e, h1, -, h2, h3⟩ := open_txtsT hf hw
  cases e
  exact ⟨l, _, _, rfl, h1, h3, h2⟩
end
end Go.Proofs.YtmnfmgoolimlmaaDoor
