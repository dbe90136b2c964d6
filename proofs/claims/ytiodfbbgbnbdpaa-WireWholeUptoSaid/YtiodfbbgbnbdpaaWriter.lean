/- strings.Builder in whatever block it lies at the front of: copyCheck, WriteByte, WriteString, String. -/
import Derived.Test.YtiodfbbgbnbdpaaGC
import Derived.Test.YtiodfbbgbnbdpaaGA
import Derived.Lib.Builder
import Derived.Shelf.Strings.Builder1
namespace Go.Proofs.Ytiodfbbgbnbdpaa
open Go.RowKit
open Crc
set_option linter.unusedSimpArgs false
set_option linter.unusedVariables false
theorem Try.sizeBuilder : (Try.prog.info? 56).map (·.size) = some 2 := by kernel_rfl
structure TOk (T : TypeId) (n : Nat) : Prop where
  lies : liesAt Try.prog Try.prog.depth T (n / Try.prog.cellsOf T) 0 56 1 = true
  ne : T ≠ 5
theorem tok_builder : TOk 56 2 := ⟨by kernel_rfl, by decide⟩
/-- No row of two bytes or more lies there. -/
def Small (w : World) (k : Nat) : Prop := ∀ cs fz, w.heap[k]? = some (.cells cs 5 fz) → cs.size < 2
/-- The row of a builder in block b: its own; none of P's blocks, nor b. -/
def RowOk (B b : Nat) (P : Nat → Prop) (v : Value) (bs : List Value) (w : World) : Prop :=
  w.ownsRow B 5 1 v bs.length bs ∧ v.ownBlock ≠ some b ∧ (bs = [] → v = .slice none 0 0) ∧ ∀ k, P k → k < w.heap.size ∧ k ≠ b ∧ Small w k ∧ v.ownBlock ≠ some k
/-- A builder at the front of block b, of type T, ex behind it; it holds bs; the blocks of P are none of its own. -/
def BuT (T : TypeId) (ex : List Value) (B b : Nat) (P : Nat → Prop) (bs : List Value) (w : World) : Prop :=
  B ≤ b ∧ ∃ p v, (p = .pointer none ∨ p = .pointer (some ⟨b, 0, none⟩)) ∧ Blk w b (p :: v :: ex) T ∧ RowOk B b P v bs w
/-- What lies below B, and the blocks of P, stands. -/
def KP (B : Nat) (P : Nat → Prop) (w w' : World) : Prop := (∀ k, P k → w'.heap[k]? = w.heap[k]?) ∧ Below B w w'
section
variable {B g : Nat} {P Q : Nat → Prop} {w w' u : World}
theorem KP.refl (B : Nat) (P : Nat → Prop) (w : World) : KP B P w w := ⟨fun _ _ => rfl, Below.refl _ _⟩
theorem KP.trans (h : KP B P w w') (k : KP B P w' u) : KP B P w u := ⟨fun i hi => (k.1 i hi).trans (h.1 i hi), h.2.trans k.2⟩
theorem KP.of (hb : Below w.heap.size w w') (hg : B ≤ w.heap.size) (hP : ∀ k, P k → k < w.heap.size) : KP B P w w' := ⟨fun k hk => hb.block k (hP k hk), hb.mono hg⟩
theorem KP.drew (h : KP B P w w') : KP B P w w'.drew := ⟨h.1, Below.drew h.2⟩
theorem KP.set (h : KP B P w w') (hg : B ≤ g) (hP : ∀ k, P k → k ≠ g) (i : Nat) (v : Value) : KP B P w (w'.setCell ⟨g, i, none⟩ v) := ⟨fun k hk => (Below.heap_setCell _ _ _ _ (hP k hk)).trans (h.1 k hk), h.2.setCell (p := ⟨g, i, none⟩) hg v⟩
theorem KP.size (h : KP B P w w') : w.heap.size ≤ w'.heap.size := h.2.size
theorem KP.weak (h : KP B P w w') (hQ : ∀ k, Q k → P k) : KP B Q w w' := ⟨fun k hk => h.1 k (hQ k hk), h.2⟩
theorem KP.grown {w1 w2 : World} {v : Value} {n : Nat} {xs : List Value} (h : KP B P w w1) (hown : w1.ownsRow B 5 1 v n xs) (hg : w1.grownBy w2 v.ownBlock) (hB : B ≤ w1.heap.size) (hP : ∀ k, P k → k < w1.heap.size ∧ v.ownBlock ≠ some k) : KP B P w w2 :=
  ⟨fun k hk => (hg.block k (hP k hk).1 (fun e => (hP k hk).2 e.symm)).trans (h.1 k hk), h.2.grown hg hB fun k hk => (hown.lt k hk).1⟩
theorem Blk.kP {k : Nat} {vs : List Value} {t : TypeId} (h : Blk w k vs t) (hk : KP B P w w') (hP : P k) : Blk w' k vs t := (hk.1 k hP).trans h
end
theorem ownsRow_base {w : World} {B B' n : Nat} {v : Value} {xs : List Value} (h : w.ownsRow B' 5 1 v n xs) (hB : B ≤ B') : w.ownsRow B 5 1 v n xs := by
  refine ⟨h.1, ?_⟩
  rcases h.2 with h' | ⟨g, cap, cur, hv, hg, h'⟩
  · exact .inl h'
  · exact .inr ⟨g, cap, cur, hv, Nat.le_trans hB hg, h'⟩
theorem ownsRow_nil {w : World} {B B' n : Nat} {v : Value} {xs : List Value} (h : w.ownsRow B 5 1 v n xs) (hv : v = .slice none 0 0) : w.ownsRow B' 5 1 v n xs := by
  subst hv
  refine ⟨h.1, ?_⟩
  rcases h.2 with h' | ⟨g, cap, cur, hv, _⟩
  · exact .inl h'
  · cases hv
section
variable {B b : Nat} {P Q : Nat → Prop} {v : Value} {bs : List Value} {w w' : World}
theorem RowOk.keep (h : RowOk B b P v bs w) (hk : ∀ k, k < w.heap.size → k ≠ b → w'.heap[k]? = w.heap[k]?) (hs : w.heap.size ≤ w'.heap.size) : RowOk B b P v bs w' := by
  obtain ⟨h1, h2, h3, h4⟩ := h
  refine ⟨⟨h1.1, ?_⟩, h2, h3, fun k hP => ?_⟩
  · rcases h1.2 with h' | ⟨g, cap, cur, hv, hg, hh, h'⟩
    · exact .inl h'
    · refine .inr ⟨g, cap, cur, hv, hg, (hk g (Array.getElem?_eq_some_iff.1 hh).1 (fun e => h2 (by rw [hv, e]; rfl))).trans hh, h'⟩
  · obtain ⟨a1, a2, a3, a4⟩ := h4 k hP
    exact ⟨Nat.lt_of_lt_of_le a1 hs, a2, fun cs fz hc => a3 cs fz ((hk k a1 a2).symm.trans hc), a4⟩
theorem RowOk.kp (h : RowOk B b P v bs w) (hk : KP B P w w') : ∀ k, P k → w'.heap[k]? = w.heap[k]? := hk.1
theorem RowOk.weak (h : RowOk B b P v bs w) (hQ : ∀ k, Q k → P k) : RowOk B b Q v bs w := ⟨h.1, h.2.1, h.2.2.1, fun k hk => h.2.2.2 k (hQ k hk)⟩
/-- The base at which the next append is looked at: what it makes lies above all, if the row is nil. -/
theorem RowOk.base (h : RowOk B b P v bs w) (hB : B ≤ w.heap.size) : ∃ B', B ≤ B' ∧ B' ≤ w.heap.size ∧ w.ownsRow B' 5 1 v bs.length bs ∧ (bs = [] → B' = w.heap.size) := by
  by_cases hb : bs = []
  · exact ⟨w.heap.size, hB, Nat.le_refl _, ownsRow_nil h.1 (h.2.2.1 hb), fun _ => rfl⟩
  · exact ⟨B, Nat.le_refl _, hB, h.1, fun e => absurd e hb⟩
theorem RowOk.app {B' m : Nat} {v' : Value} {news : List Value} {T : TypeId} {cs : List Value} (h : RowOk B b P v bs w) (hB : B ≤ B') (hnil : bs = [] → B' = w.heap.size) (hl : news.length = m) (h2 : bs = [] ∨ 2 ≤ bs.length + m)
    (hown : w'.ownsRow B' 5 1 v' (bs.length + m) (bs ++ news)) (hg : w.grownBy w' v.ownBlock) (hv : v = .slice none 0 0 → m = 0 → v' = .slice none 0 0) (hb : Blk w' b cs T) (hT : T ≠ 5) : RowOk B b P v' (bs ++ news) w' := by
  refine ⟨?_, own_blk_ne hown hb (Ne.symm hT), fun e => ?_, fun k hP => ?_⟩
  · rw [List.length_append, hl]; exact ownsRow_base hown hB
  · obtain ⟨e1, e2⟩ := List.append_eq_nil_iff.1 e
    exact hv (h.2.2.1 e1) (by rw [← hl, e2]; rfl)
  · obtain ⟨a1, a2, a3, a4⟩ := h.2.2.2 k hP
    have hk : w'.heap[k]? = w.heap[k]? := hg.block k a1 (fun e => a4 e.symm)
    refine ⟨Nat.lt_of_lt_of_le a1 hg.size, a2, fun cs fz hc => a3 cs fz (hk.symm.trans hc), ?_⟩
    rcases hown.2 with ⟨rfl, _⟩ | ⟨g', cap, cur, rfl, hg', hh, hn, _, hcs, _⟩
    · simp [Value.ownBlock]
    · intro e
      obtain rfl : g' = k := by simpa [Value.ownBlock] using e
      rcases h2 with h2 | h2
      · have := hnil h2
        omega
      · have := a3 cur (0, 0) (hk.symm.trans hh)
        omega
end
theorem Blk.shape {w : World} {b : Nat} {vs : List Value} {T : TypeId} (h : Blk w b vs T) : w.shape? b = some (T, vs.length) := by
  have h' : w.heap[b]? = some (.cells vs.toArray T (0, 0)) := h
  simp [World.shape?, h']
section
variable {T : TypeId} {ex : List Value}
set_option maxHeartbeats 1000000 in
set_option maxRecDepth 100000 in
theorem checkT_used (b : Nat) (w : World) (h0 : w.cell? ⟨b, 0, none⟩ = some (.pointer (some ⟨b, 0, none⟩))) :
    Calls Try.prog 44 #[.pointer (some ⟨b, 0, none⟩)] w fun e w' => e = .returned (.tuple #[]) ∧ w' = w := by
  obtain ⟨j, hj, _⟩ := Option.map_eq_some_iff.1 Try.sizeBuilder
  go_enter Try.func44, Try.ntmps44
  go_wp2
  rw [Lib.run_neq_ptr_same w _ Try.underlying54 hj]
  go_wp2
  go_end0
  exact ⟨rfl, rfl⟩
set_option maxHeartbeats 1000000 in
set_option maxRecDepth 100000 in
theorem checkT_fresh (b n : Nat) (w : World) (hT : TOk T n) (h0 : w.cell? ⟨b, 0, none⟩ = some (.pointer none)) (hn : 0 < n) (hsh : w.shape? b = some (T, n)) (hfz : w.frozen? ⟨b, 0, none⟩ = false) :
    Calls Try.prog 44 #[.pointer (some ⟨b, 0, none⟩)] w fun e w' => e = .returned (.tuple #[]) ∧ w' = w.setCell ⟨b, 0, none⟩ (.pointer (some ⟨b, 0, none⟩)) := by
  obtain ⟨j, hj, hjs⟩ := Option.map_eq_some_iff.1 Try.sizeBuilder
  go_enter Try.func44, Try.ntmps44
  go_wp2
  rw [Lib.run_to_unsafe w ⟨b, 0, none⟩ Try.underlying54 Try.underlying119 hj (by rw [hjs]; decide) hsh hn]
  simp only [Result.andThen]
  rw [Oper.upon_value]
  go_wp2
  rw [run_callFunc_extern Try.func47 (by kernel_rfl) (by kernel_rfl) (by kernel_rfl) (e := Extern.AbiNoEscape.same) (by kernel_rfl)]
  rw [Lib.run_noEscape]
  simp only [Result.andThen]
  rw [Oper.upon_value]
  go_wp2
  rw [Lib.run_from_unsafe w ⟨b, 0, none⟩ Try.underlying119 Try.underlying54 hj hsh hT.lies]
  simp only [Result.andThen]
  rw [Oper.upon_value]
  go_wp2
  go_end0
  exact ⟨rfl, rfl⟩
theorem checkT {P : Nat → Prop} (B b : Nat) (bs : List Value) (w : World) (h : BuT T ex B b P bs w) (hT : TOk T (ex.length + 1 + 1)) :
    Calls Try.prog 44 #[.pointer (some ⟨b, 0, none⟩)] w fun e w' => e = .returned (.tuple #[]) ∧ (∃ v, Blk w' b (.pointer (some ⟨b, 0, none⟩) :: v :: ex) T ∧ RowOk B b P v bs w') ∧ KP B P w w' := by
  obtain ⟨hB, p, v, hp, hb, hrow⟩ := h
  have hP : ∀ k, P k → k ≠ b := fun k hk => (hrow.2.2.2 k hk).2.1
  rcases hp with rfl | rfl
  · refine (checkT_fresh b _ w hT (by rw [hb.cell]; rfl) (Nat.succ_pos _) hb.shape (hb.free 0)).mono ?_
    rintro e w' ⟨rfl, rfl⟩
    exact ⟨rfl, ⟨v, hb.set 0 _, hrow.keep (fun k _ hk => Below.heap_setCell _ _ _ _ hk) (by simp [World.setCell])⟩, (KP.refl B P w).set hB hP 0 _⟩
  · refine (checkT_used b w (by rw [hb.cell]; rfl)).mono ?_
    rintro e w' ⟨rfl, rfl⟩
    exact ⟨rfl, ⟨v, hb, hrow⟩, KP.refl B P _⟩
set_option maxHeartbeats 2000000 in
set_option maxRecDepth 100000 in
theorem writeByteT {P : Nat → Prop} (B b : Nat) (bs : List Value) (c : Int) (w : World) (h : BuT T ex B b P bs w) (hT : TOk T (ex.length + 1 + 1)) (hlen : bs.length + 1 ≤ 140737488355328) :
    Calls Try.prog 34 #[.pointer (some ⟨b, 0, none⟩), .int .u8 c] w fun e w' => e = .returned .nilIface ∧ BuT T ex B b P (bs ++ [.int .u8 c]) w' ∧ KP B P w w' := by
  obtain ⟨i0, hi, hz0, hz1, hz2⟩ := info_parts Try.info5
  have hB := h.1
  go_enter Try.func34, Try.ntmps34
  go_wp2_with (go_at_call 44; refine (checkT B b bs _ h hT).mono ?_)
  rintro e w1 ⟨rfl, ⟨v, hbk, hrow⟩, kb⟩
  have c0 : w1.cell? ⟨b, 0, none⟩ = some (.pointer (some ⟨b, 0, none⟩)) := by rw [hbk.cell]; rfl
  have c1 : w1.cell? ⟨b, 1, none⟩ = some v := by rw [hbk.cell]; rfl
  have hlt := hbk.lt
  have ha := below_alloc w1 (.cells #[.int .u8 c] 5)
  have hr1 : RowOk B b P v bs (w1.alloc (.cells #[.int .u8 c] 5)) := hrow.keep (fun k hk _ => ha.block k hk) ha.size
  obtain ⟨B', hB1, hB2, hown, hnil⟩ := hr1.base (by have := ha.size; omega)
  go_wp2_with (at_builtin; refine wpList_append_own _ rfl _ _ 51 rfl B' 5 i0 (.int .u8 0) 1 1 Try.underlying51 hi hz0 hz1 hz2 rfl (by decide) _ _ _ rfl hown ⟨w1.heap.size, 0, none⟩ 1 1 [.int .u8 c] rfl rfl ?c1 ?c2 ?c3 ?c4 ?c5 ?_)
  case c1 =>
    intro j u hj
    match j, hj with
    | 0, hj => simp at hj; subst hj; simp [Addr.add]
  case c2 => intro u hu; simp at hu; subst hu; rfl
  case c3 => unfold maxLen; omega
  case c4 => omega
  case c5 => exact hB2
  intro v' w2 hown' hgrow hv'
  have hb2 : Blk w2 b (.pointer (some ⟨b, 0, none⟩) :: v :: ex) T :=
    (hgrow.block b (by simp; omega) (fun e => hrow.2.1 e.symm)).trans ((Lib.alloc_old w1 _ b hlt).trans hbk)
  have d0 : w2.cell? ⟨b, 0, none⟩ = some (.pointer (some ⟨b, 0, none⟩)) := by rw [hb2.cell]; rfl
  have d1 : w2.cell? ⟨b, 1, none⟩ = some v := by rw [hb2.cell]; rfl
  have f1 : w2.frozen? ⟨b, 1, none⟩ = false := hb2.free 1
  have hrow2 : RowOk B b P v' (bs ++ [.int .u8 c]) w2 := hr1.app hB1 hnil rfl (by
    cases bs with
    | nil => exact .inl rfl
    | cons x l => exact .inr (by simp)) hown' hgrow (fun _ h => absurd h (by simp)) hb2 hT.ne
  have hP : ∀ k, P k → k ≠ b := fun k hk => (hrow.2.2.2 k hk).2.1
  have kb2 : KP B P w w2 := (kb.trans (KP.of ha (by have := kb.size; omega) fun k hk => (hrow.2.2.2 k hk).1)).grown hr1.1 hgrow (by have := ha.size; omega) fun k hk => ⟨(hr1.2.2.2 k hk).1, (hr1.2.2.2 k hk).2.2.2⟩
  have kb3 := kb2.set hB hP 1 v'
  have hrow3 : RowOk B b P v' (bs ++ [.int .u8 c]) (w2.setCell ⟨b, 1, none⟩ v') := hrow2.keep (fun k _ hk => Below.heap_setCell _ _ _ _ hk) (by simp [World.setCell])
  have hb3 := hb2.set 1 v'
  obtain ⟨g, cap, rfl⟩ : ∃ g cap, v' = .slice (some ⟨g, 0, none⟩) (bs.length + 1) cap := by
    rcases hown'.2 with ⟨_, h0⟩ | ⟨g, cap, cur, hv, _⟩
    · omega
    · exact ⟨g, cap, hv⟩
  go_wp2
  go_ret
  exact ⟨rfl, ⟨hB, _, _, .inr rfl, hb3, hrow3⟩, kb3⟩
set_option maxHeartbeats 2000000 in
set_option maxRecDepth 100000 in
theorem writeStringT {P : Nat → Prop} (B b : Nat) (bs : List Value) (s : ByteArray) (w : World) (h : BuT T ex B b P bs w) (hT : TOk T (ex.length + 1 + 1)) (hlen : bs.length + s.size ≤ 140737488355328) (h2 : bs = [] ∨ 2 ≤ bs.length + s.size) :
    Calls Try.prog 69 #[.pointer (some ⟨b, 0, none⟩), .string s] w fun e w' => e = .returned (.tuple #[.int .i64 s.size, .nilIface]) ∧ BuT T ex B b P (bs ++ cellsOf s.data.toList) w' ∧ KP B P w w' := by
  obtain ⟨i0, hi, hz0, hz1, hz2⟩ := info_parts Try.info5
  have hB := h.1
  go_enter Try.func69, Try.ntmps69
  go_wp2_with (go_at_call 44; refine (checkT B b bs _ h hT).mono ?_)
  rintro e w1 ⟨rfl, ⟨v, hbk, hrow⟩, kb⟩
  have c0 : w1.cell? ⟨b, 0, none⟩ = some (.pointer (some ⟨b, 0, none⟩)) := by rw [hbk.cell]; rfl
  have c1 : w1.cell? ⟨b, 1, none⟩ = some v := by rw [hbk.cell]; rfl
  have hlt := hbk.lt
  obtain ⟨B', hB1, hB2, hown, hnil⟩ := hrow.base (by omega)
  go_wp2_with (at_builtin; refine Lib.wpList_append_own_string _ rfl _ _ 51 9 rfl B' 5 i0 Try.underlying51 Try.underlying9 hi hz0 hz1 hz2 _ _ _ rfl hown s rfl ?c3 ?c4 ?c5 ?_)
  case c3 => unfold maxLen; omega
  case c4 => omega
  case c5 => exact hB2
  intro v' w2 hown' hgrow hv'
  have hb2 : Blk w2 b (.pointer (some ⟨b, 0, none⟩) :: v :: ex) T := (hgrow.block b hlt (fun e => hrow.2.1 e.symm)).trans hbk
  have d0 : w2.cell? ⟨b, 0, none⟩ = some (.pointer (some ⟨b, 0, none⟩)) := by rw [hb2.cell]; rfl
  have d1 : w2.cell? ⟨b, 1, none⟩ = some v := by rw [hb2.cell]; rfl
  have f1 : w2.frozen? ⟨b, 1, none⟩ = false := hb2.free 1
  have hsc : Lib.strCells s = cellsOf s.data.toList := by simp [Lib.strCells, cellsOf]
  rw [hsc] at hown'
  have hrow2 : RowOk B b P v' (bs ++ cellsOf s.data.toList) w2 := hrow.app hB1 hnil (by rw [cellsOf_length]; simp) h2 hown' hgrow (fun e1 e2 => hv'.2 ⟨e1, by cases s with | mk a => simp only [ByteArray.size, Array.size_eq_zero_iff] at e2; rw [e2]; rfl⟩) hb2 hT.ne
  have hP : ∀ k, P k → k ≠ b := fun k hk => (hrow.2.2.2 k hk).2.1
  have kb2 : KP B P w w2 := kb.grown hrow.1 hgrow (by omega) fun k hk => ⟨(hrow.2.2.2 k hk).1, (hrow.2.2.2 k hk).2.2.2⟩
  have kb3 := kb2.set hB hP 1 v'
  have hrow3 : RowOk B b P v' (bs ++ cellsOf s.data.toList) (w2.setCell ⟨b, 1, none⟩ v') := hrow2.keep (fun k _ hk => Below.heap_setCell _ _ _ _ hk) (by simp [World.setCell])
  have hb3 := hb2.set 1 v'
  obtain ⟨ao, n', cap, rfl⟩ : ∃ ao n' cap, v' = .slice ao n' cap := by
    rcases hown'.2 with ⟨hv, _⟩ | ⟨g, cap, cur, hv, _⟩
    · exact ⟨_, _, _, hv⟩
    · exact ⟨_, _, _, hv⟩
  go_wp2
  go_ret2
  exact ⟨rfl, ⟨hB, _, _, .inr rfl, hb3, hrow3⟩, kb3⟩
theorem Try.cellsByte : Try.prog.cellsOf 5 = 1 := by kernel_rfl
set_option maxHeartbeats 2000000 in
set_option maxRecDepth 100000 in
theorem stringT {P : Nat → Prop} (B b : Nat) (l : List UInt8) (w : World) (h : BuT T ex B b P (cellsOf l) w) (hT : T ≠ 5) (h0 : l ≠ []) :
    Calls Try.prog 21 #[.pointer (some ⟨b, 0, none⟩)] w fun e w' => e = .returned (.string (str l)) ∧ KP B (fun k => P k ∨ k = b) w w' := by
  obtain ⟨hB, p, v, _, hbk, hown, hne, _, hPr⟩ := h
  have hl0 : l.length ≠ 0 := by simpa using h0
  rw [cellsOf_length] at hown
  obtain ⟨g, cap, cur, rfl, hbg, hg, hnc, hcm, hcs, htake⟩ : ∃ g cap cur, v = .slice (some ⟨g, 0, none⟩) l.length cap ∧ B ≤ g ∧ w.heap[g]? = some (.cells cur 5 (0, 0)) ∧ l.length ≤ cap ∧ cap ≤ maxLen ∧ cur.size = cap * 1 ∧ cur.toList.take (l.length * 1) = cellsOf l := by
    rcases hown.2 with ⟨_, hz⟩ | ⟨g, cap, cur, hv, r⟩
    · exact absurd hz hl0
    · exact ⟨g, cap, cur, hv, r⟩
  have hbd : Blk w.drew b (p :: .slice (some ⟨g, 0, none⟩) l.length cap :: ex) T := hbk
  have c1 : w.drew.cell? ⟨b, 1, none⟩ = some (.slice (some ⟨g, 0, none⟩) l.length cap) := by rw [hbd.cell]; rfl
  have hSD : (Builtin.unsafeSliceData_ #[51] 60 #[.slice (some ⟨g, 0, none⟩) l.length cap]).run Try.prog w.drew = .ok (.pointer (some ⟨g, 0, none⟩)) w.drew :=
    Lib.run_unsafeSliceData_row _ _ _ _ _ _ (by omega)
  have hUS : (Builtin.unsafeString_ #[60, 3] 9 #[.pointer (some ⟨g, 0, none⟩), .int .i64 l.length]).run Try.prog w.drew = .ok (.string ⟨l.toArray⟩) (w.drew.freeze ⟨g, 0, none⟩ l.length) := by
    refine Lib.run_unsafeString_row w.drew 60 3 9 5 Try.underlying60 Try.cellsByte g cur.size (by have hg' : w.drew.heap[g]? = some (.cells cur 5 (0, 0)) := hg; simp [World.shape?, hg']) l h0 (by omega) (by unfold maxLen at hcm; omega) ?_
    intro j x hx
    have := hown.cells (g := g) rfl j (.int .u8 x.toNat) (by simp [cellsOf, hx])
    exact this
  have hbl := Lib.below_freeze (Below.drew (Below.refl B w)) (p := ⟨g, 0, none⟩) hbg l.length
  have hfz : ∀ k, k ≠ g → (w.drew.freeze ⟨g, 0, none⟩ l.length).heap[k]? = w.heap[k]? := fun k hk => by
    unfold World.freeze
    split
    · rfl
    · simp only [Array.getElem?_modify]
      rw [if_neg (fun e => hk e.symm)]
      rfl
  have ho : KP B (fun k => P k ∨ k = b) w (w.drew.freeze ⟨g, 0, none⟩ l.length) := ⟨fun k hk => by
    rcases hk with hk | rfl
    · exact hfz k (fun e => (hPr k hk).2.2.2 (by rw [e]; rfl))
    · exact hfz k (fun e => hne (by rw [e]; rfl)), hbl⟩
  go_enter Try.func21, Try.ntmps21
  go_wp2
  go_region
  all_goals (go_wp2; go_ret; exact ⟨rfl, ho⟩)
/-- Memory that was made besides. -/
theorem BuT.below {P : Nat → Prop} {B b : Nat} {bs : List Value} {w w' : World} (h : BuT T ex B b P bs w) (hb : Below w.heap.size w w') : BuT T ex B b P bs w' := by
  obtain ⟨h1, p, v, h2, h3, h4⟩ := h
  exact ⟨h1, p, v, h2, h3.below hb, h4.keep (fun k hk _ => hb.block k hk) hb.size⟩
theorem RowOk.more {P : Nat → Prop} {B b : Nat} {v : Value} {bs : List Value} {w : World} (h : RowOk B b P v bs w) (hb : b < w.heap.size) (o : Obj) (ho : ∀ cs fz, o = .cells cs 5 fz → cs.size < 2) : RowOk B b (fun k => P k ∨ k = w.heap.size) v bs (w.alloc o) := by
  have ha := below_alloc w o
  obtain ⟨h1, h2, h3, h4⟩ := h.keep (fun k hk _ => ha.block k hk) ha.size
  refine ⟨h1, h2, h3, fun k hk => ?_⟩
  rcases hk with hk | rfl
  · exact h4 k hk
  · refine ⟨by simp, by omega, fun cs fz hc => ?_, fun e => ?_⟩
    · rw [show (w.alloc o).heap[w.heap.size]? = some o from heap_alloc_new w o] at hc
      exact ho cs fz (Option.some.inj hc)
    · rcases h.1.2 with ⟨rfl, _⟩ | ⟨g, cap, cur, rfl, _, hh, _⟩
      · simp [Value.ownBlock] at e
      · obtain rfl : g = w.heap.size := by simpa [Value.ownBlock] using e
        exact absurd (Array.getElem?_eq_some_iff.1 hh).1 (Nat.lt_irrefl _)
/-- A block that is made is not the builder's. -/
theorem BuT.more {P : Nat → Prop} {B b : Nat} {bs : List Value} {w : World} (h : BuT T ex B b P bs w) (o : Obj) (ho : ∀ cs fz, o = .cells cs 5 fz → cs.size < 2) : BuT T ex B b (fun k => P k ∨ k = w.heap.size) bs (w.alloc o) := by
  obtain ⟨h1, p, v, h2, h3, h4⟩ := h
  exact ⟨h1, p, v, h2, h3.alloc o, h4.more h3.lt o ho⟩
theorem BuT.weak {P Q : Nat → Prop} {B b : Nat} {bs : List Value} {w : World} (h : BuT T ex B b P bs w) (hQ : ∀ k, Q k → P k) : BuT T ex B b Q bs w := by
  obtain ⟨h1, p, v, h2, h3, h4⟩ := h
  exact ⟨h1, p, v, h2, h3, h4.weak hQ⟩
end
end Go.Proofs.Ytiodfbbgbnbdpaa
