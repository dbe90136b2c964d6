/- A row of ones own whose room holds no text; appending to it leaves every text in memory that is not empty. -/
import Derived.Test.YtdgonhmipecjpaaGA
import Derived.Maps.AppendAt
import Derived.Deep.AppendLies
namespace Go.Proofs.Ytdgonhmipecjpaa
open Go.RowKit
/-- Texts that are not empty stay where they lie. -/
def Stays (w w' : World) : Prop := ∀ (a : Addr) (s : ByteArray), w.cell? a = some (.string s) → s.size ≠ 0 → w'.cell? a = some (.string s)
/-- A row of ones own; in its room no text lies but the empty one. -/
def Row0 (w : World) (base : Nat) (e : TypeId) (size : Nat) (v : Value) (n : Nat) (xs : List Value) : Prop :=
  w.ownsRow base e size v n xs ∧ ∀ g, v.ownBlock = some g → ∀ (j : Nat) (s : ByteArray), n * size ≤ j → w.cell? ⟨g, j, none⟩ = some (.string s) → s.size = 0
theorem Row0.nil (w : World) (base : Nat) (e : TypeId) (size : Nat) : Row0 w base e size (.slice none 0 0) 0 [] := ⟨World.ownsRow_nil _ _ _ _, fun g h => by simp [Value.ownBlock] at h⟩
theorem Row0.below {w w' : World} {base : Nat} {e : TypeId} {size n : Nat} {v : Value} {xs : List Value} (h : Row0 w base e size v n xs) (hb : Below w.heap.size w w') : Row0 w' base e size v n xs :=
  ⟨own_below h.1 hb, fun g hg j s hj hc => h.2 g hg j s hj (by rw [← World.cell?_of_block (a := ⟨g, j, none⟩) (hb.block g (h.1.lt g hg).2)]; exact hc)⟩
theorem Row0.alloc {w : World} {base : Nat} {e : TypeId} {size n : Nat} {v : Value} {xs : List Value} (h : Row0 w base e size v n xs) (o : Obj) : Row0 (w.alloc o) base e size v n xs := h.below (below_alloc _ _)
theorem Row0.far {w : World} {base : Nat} {e : TypeId} {size n : Nat} {v : Value} {xs : List Value} (h : Row0 w base e size v n xs) {p : Addr} (hp : v.ownBlock ≠ some p.block) (u : Value) : Row0 (w.setCell p u) base e size v n xs :=
  ⟨own_far h.1 hp u, fun g hg j s hj hc => h.2 g hg j s hj (by rw [← World.cell?_setCell_other w p ⟨g, j, none⟩ u (fun e => hp (by rw [hg]; exact congrArg some (congrArg Addr.block e).symm))]; exact hc)⟩
theorem zero_cells {z : Array Value} (hz0 : ∀ u ∈ z, ∀ s, u = Value.string s → s.size = 0) (hs : 0 < z.size) (k j : Nat) (s : ByteArray) (h : (Builtin.zeroCells z k)[j]? = some (.string s)) : s.size = 0 := by
  have hj : j < k * z.size := by
    have := (Array.getElem?_eq_some_iff.1 h).1
    simpa [Builtin.zeroCells] using this
  simp only [Builtin.zeroCells, Array.getElem?_map, Array.getElem?_range, if_pos hj, Option.map_some, Option.some.injEq] at h
  have hm : j % z.size < z.size := Nat.mod_lt _ hs
  rw [getElem!_pos z _ hm] at h
  exact hz0 _ (Array.getElem_mem hm) s h
section
variable {P : Program} (w : World)
theorem run_append_row0 (base : Nat) (t ty e : TypeId) (i : TypeInfo) (z : Value) (size bytes : Nat) (ht : P.underlying t = some (.slice e)) (hi : P.info? e = some i) (hz : i.zero = some z)
    (hsize : i.size = size) (hby : i.bytes = bytes) (hzs : z.cells.size = size) (hsz : 0 < size) (hz0 : ∀ u ∈ z.cells, ∀ s, u = Value.string s → s.size = 0)
    (v : Value) (n : Nat) (xs : List Value) (hrow : Row0 w base e size v n xs)
    (a : Addr) (m c : Nat) (news : List Value) (hl : news.length = m * size) (hnews : ∀ j u, news[j]? = some u → w.cell? (a.add j) = some u) (h1 : ∀ u ∈ news, u.oneCell' = true)
    (hm : 0 < m) (h63 : n + m ≤ maxLen) (hbytes : (n + m) * bytes ≤ 140737488355328) (hbase : base ≤ w.heap.size) :
    ∃ g cap w', (Builtin.append_ #[t, t] ty #[v, .slice (some a) m c]).run P w = .ok (.slice (some ⟨g, 0, none⟩) (n + m) cap) w' ∧ Row0 w' base e size (.slice (some ⟨g, 0, none⟩) (n + m) cap) (n + m) (xs ++ news) ∧ w.grownBy w' v.ownBlock ∧ Stays w w' := by
  obtain ⟨hown, hfree⟩ := hrow
  subst hsize
  subst hby
  have hsmall : n + m ≤ 9223372036854775807 := by simp only [maxLen] at h63; omega
  have hlen : (xs ++ news).length = (n + m) * i.size := by rw [List.length_append, hown.1, hl, Nat.add_mul]
  have grown : ∀ (old : Nat), old < n + m → ∀ (row : Option Nat),
      Row0 (w.drew.alloc (.cells (xs.toArray ++ news.toArray ++ Builtin.zeroCells z.cells (grownCap w (n + m) old e - (n + m))) e)) base e i.size
        (.slice (some ⟨w.heap.size, 0, none⟩) (n + m) (grownCap w (n + m) old e)) (n + m) (xs ++ news) ∧
      w.grownBy (w.drew.alloc (.cells (xs.toArray ++ news.toArray ++ Builtin.zeroCells z.cells (grownCap w (n + m) old e - (n + m))) e)) row ∧
      Stays w (w.drew.alloc (.cells (xs.toArray ++ news.toArray ++ Builtin.zeroCells z.cells (grownCap w (n + m) old e - (n + m))) e)) := by
    intro old ho row
    have hge := grownCap_ge w (n + m) old e
    have hcm : grownCap w (n + m) old e ≤ maxLen := grownCap_le_maxLen w (n + m) old e h63
    refine ⟨⟨⟨hlen, .inr ⟨w.heap.size, _, _, rfl, hbase, heap_alloc_new w.drew _, hge, hcm, ?_, ?_⟩⟩, ?_⟩, ⟨rfl, rfl, rfl, by simp, fun k hk _ => heap_alloc_old w.drew _ hk⟩, ?_⟩
    · simp only [Array.size_append, List.size_toArray, size_zeroCells, hzs, hown.1, hl, ← Nat.add_mul]
      congr 1
      omega
    · simp only [Array.toList_append, List.append_assoc]
      rw [← List.append_assoc, ← hlen]
      exact List.take_left
    · intro g hg j s hj hc
      have hg' : w.drew.heap.size = g := by simpa [Value.ownBlock] using hg
      rw [← hg', World.cell?_alloc_new w.drew] at hc
      have hsz2 : (xs.toArray ++ news.toArray).size = (n + m) * i.size := by rw [← hlen]; simp
      rw [Array.getElem?_append_right (by rw [hsz2]; exact hj)] at hc
      exact zero_cells hz0 (by rw [hzs]; exact hsz) _ _ s hc
    · intro b s hc _
      exact (World.cell?_alloc_lt w.drew _ b (World.block_lt_of_cell? w b hc)).trans hc
  rcases hown.2 with ⟨rfl, rfl⟩ | ⟨g, cap, cur, rfl, hbg, hg, hnc, hcm, hcs, htake⟩
  · have hx : xs = [] := List.eq_nil_of_length_eq_zero (by simpa using hown.1)
    subst hx
    have hr := run_append_nil (P := P) w t ty e i z ht hi hz a m c news hl hnews (by omega) (by omega) (by have hb := hbytes; simp only [Nat.zero_add] at hb; omega)
    have hgr := grown 0 (by omega) (Value.ownBlock (.slice none 0 0))
    simp only [Nat.zero_add, List.nil_append, Array.empty_append] at hgr ⊢
    exact ⟨_, _, _, hr, hgr.1, hgr.2.1, hgr.2.2⟩
  · by_cases hroom : n + m ≤ cap
    · have hfit : n * i.size + news.length ≤ cur.size := by rw [hl, hcs, ← Nat.add_mul]; exact Nat.mul_le_mul_right _ hroom
      have hr := run_append_room (P := P) w t ty e i ht hi g n cap cur hg a m c news hl hnews h1 hroom hfit
      have hheap := setRow_heap w g cur (cur.toList.take (n * i.size) ++ news ++ cur.toList.drop (n * i.size + news.length)).toArray e (0, 0) hg
      have hcell : ∀ j, (w.setRow g (cur.toList.take (n * i.size) ++ news ++ cur.toList.drop (n * i.size + news.length)).toArray).cell? ⟨g, j, none⟩ = (cur.toList.take (n * i.size) ++ news ++ cur.toList.drop (n * i.size + news.length))[j]? := fun j => by
        unfold World.cell?
        rw [hheap]
        simp
      have hold : ∀ j, w.cell? ⟨g, j, none⟩ = cur.toList[j]? := fun j => by simp [World.cell?, hg]
      have hl1 : (cur.toList.take (n * i.size)).length = n * i.size := by rw [List.length_take, Array.length_toList]; omega
      have hl2 : (cur.toList.take (n * i.size) ++ news).length = n * i.size + news.length := by rw [List.length_append, hl1]
      have hbeyond : ∀ j, n * i.size + news.length ≤ j → (cur.toList.take (n * i.size) ++ news ++ cur.toList.drop (n * i.size + news.length))[j]? = cur.toList[j]? := fun j hj => by
        rw [List.getElem?_append_right (by rw [hl2]; exact hj), hl2, List.getElem?_drop]
        congr 1
        omega
      refine ⟨_, _, _, hr, ⟨⟨hlen, .inr ⟨g, cap, _, rfl, hbg, hheap, hroom, hcm, ?_, ?_⟩⟩, ?_⟩, ⟨rfl, rfl, rfl, by simp, fun k _ hk => setRow_other w g k _ (fun e => hk (by simp [Value.ownBlock, e]))⟩, ?_⟩
      · simp only [List.size_toArray, List.length_append, List.length_take, List.length_drop, Array.length_toList]
        omega
      · rw [htake, ← hlen]
        exact List.take_left
      · intro g' hg' j s hj hc
        obtain rfl : g = g' := by simpa [Value.ownBlock] using hg'
        rw [hcell, hbeyond j (by rw [hl, ← Nat.add_mul]; exact hj), ← hold] at hc
        exact hfree g rfl j s (by have : n * i.size ≤ (n + m) * i.size := Nat.mul_le_mul_right _ (by omega)
                                  omega) hc
      · rintro ⟨b, j, sp⟩ s hc hne
        by_cases hbg' : b = g
        · subst hbg'
          have hsp : sp = none := by
            cases sp with
            | none => rfl
            | some x => simp [World.cell?, hg] at hc
          subst hsp
          rw [hcell]
          have hc' := hc
          rw [hold] at hc'
          rcases Nat.lt_or_ge j (n * i.size) with hlt | hge
          · rw [List.append_assoc, List.getElem?_append_left (by rw [hl1]; exact hlt), List.getElem?_take, if_pos hlt]
            exact hc'
          · exact absurd (hfree b rfl j s hge hc) hne
        · have : (w.setRow g (cur.toList.take (n * i.size) ++ news ++ cur.toList.drop (n * i.size + news.length)).toArray).heap[b]? = w.heap[b]? := setRow_other w g b _ hbg'
          exact (World.cell?_of_block (a := ⟨b, j, sp⟩) this).trans hc
    · have holds : ∀ j u, xs[j]? = some u → w.cell? ((⟨g, 0, none⟩ : Addr).add j) = some u := hown.cells (g := g) rfl
      have hr := run_append_grow (P := P) w t ty e i z ht hi hz ⟨g, 0, none⟩ n cap xs hown.1 holds a m c news hl hnews (by omega) (by omega) (growslice_fits (by omega) hbytes)
      have hgr := grown cap (by omega) (Value.ownBlock (.slice (some ⟨g, 0, none⟩) n cap))
      exact ⟨_, _, _, hr, hgr.1, hgr.2.1, hgr.2.2⟩
theorem wp_append_row0 {o : Oper} {a : Act} {K : Act → World → Prop} {Q : Exit → Act → World → Prop} (s x : Operand) (t : TypeId)
    (ho : o.op = .call { callee := .builtin .append, args := #[s, x], argTypes := #[t, t] })
    (base : Nat) (e : TypeId) (i : TypeInfo) (z : Value) (size bytes : Nat) (ht : P.underlying t = some (.slice e)) (hi : P.info? e = some i) (hz : i.zero = some z)
    (hsize : i.size = size) (hby : i.bytes = bytes) (hzs : z.cells.size = size) (hsz : 0 < size) (hz0 : ∀ u ∈ z.cells, ∀ s, u = Value.string s → s.size = 0)
    (v : Value) (n : Nat) (xs : List Value) (hs : a.eval s = v) (hown : Row0 w base e size v n xs)
    (ad : Addr) (m c : Nat) (news : List Value) (hx : a.eval x = .slice (some ad) m c) (hl : news.length = m * size) (hnews : ∀ j u, news[j]? = some u → w.cell? (ad.add j) = some u) (h1 : ∀ u ∈ news, u.oneCell' = true)
    (hm : 0 < m) (h63 : n + m ≤ maxLen) (hbytes : (n + m) * bytes ≤ 140737488355328) (hbase : base ≤ w.heap.size)
    (h : ∀ g cap w', Row0 w' base e size (.slice (some ⟨g, 0, none⟩) (n + m) cap) (n + m) (xs ++ news) → w.grownBy w' v.ownBlock → Stays w w' → K (a.put o.dst (.slice (some ⟨g, 0, none⟩) (n + m) cap)) w') : o.wp P a w K Q := by
  obtain ⟨g, cap, w', hr, h2, h3, h4⟩ := run_append_row0 (P := P) w base t o.type e i z size bytes ht hi hz hsize hby hzs hsz hz0 v n xs hown ad m c news hl hnews h1 hm h63 hbytes hbase
  unfold Oper.wp execOp
  simp only [ho, resolve, invoke, builtin, Sem.run_bind, Sem.run_pure, Result.andThen_ok, List.map_toArray, List.map_cons, List.map_nil, hs, hx, hr]
  exact h g cap w' h2 h3 h4
theorem wpList_append_row0 {ops : Array Oper} {rest : List Oper} {o : Oper} {a : Act} {Q : Exit → Act → World → Prop} (hgd : o.guard = none) (s x : Operand) (t : TypeId)
    (ho : o.op = .call { callee := .builtin .append, args := #[s, x], argTypes := #[t, t] })
    (base : Nat) (e : TypeId) (i : TypeInfo) (z : Value) (size bytes : Nat) (ht : P.underlying t = some (.slice e)) (hi : P.info? e = some i) (hz : i.zero = some z)
    (hsize : i.size = size) (hby : i.bytes = bytes) (hzs : z.cells.size = size) (hsz : 0 < size) (hz0 : ∀ u ∈ z.cells, ∀ s, u = Value.string s → s.size = 0)
    (v : Value) (n : Nat) (xs : List Value) (hs : a.eval s = v) (hown : Row0 w base e size v n xs)
    (ad : Addr) (m c : Nat) (news : List Value) (hx : a.eval x = .slice (some ad) m c) (hl : news.length = m * size) (hnews : ∀ j u, news[j]? = some u → w.cell? (ad.add j) = some u) (h1 : ∀ u ∈ news, u.oneCell' = true)
    (hm : 0 < m) (h63 : n + m ≤ maxLen) (hbytes : (n + m) * bytes ≤ 140737488355328) (hbase : base ≤ w.heap.size)
    (h : ∀ g cap w', Row0 w' base e size (.slice (some ⟨g, 0, none⟩) (n + m) cap) (n + m) (xs ++ news) → w.grownBy w' v.ownBlock → Stays w w' → wpList P ops Q rest (a.put o.dst (.slice (some ⟨g, 0, none⟩) (n + m) cap)) w') : wpList P ops Q (o :: rest) a w :=
  wpList_plain hgd fun _ hK => wp_append_row0 w s x t ho base e i z size bytes ht hi hz hsize hby hzs hsz hz0 v n xs hs hown ad m c news hx hl hnews h1 hm h63 hbytes hbase fun g cap w' h2 h3 h4 => hK _ _ (h g cap w' h2 h3 h4)
end
end Go.Proofs.Ytdgonhmipecjpaa
