/- What value.Record wants of its map, and of the library's sort. -/
import Derived.Test.YtmnfmgoolimlmaaDoorGK
import Derived.Maps.OwnSet
import Derived.Maps.Views
import Derived.Sort.OwnSorted
namespace Go.Proofs.YtmnfmgoolimlmaaDoor
set_option linter.unusedSimpArgs false
set_option linter.unusedVariables false
open Go.RowKit Go.Maps
def heldE (v : Value) : Option (DataW Value × List MemPlace) := some (.held v, [])
def kS (x : ByteArray) : Lit := .string x.data.toList
theorem kS_inj {x y : ByteArray} (h : kS x = kS y) : x = y := by
  unfold kS at h
  injection h with h
  apply ByteArray.ext
  exact Array.toList_inj.1 h
theorem kS_key (x : ByteArray) : WideAt.IsKeyLit (kS x) := trivial
theorem lawS : Keyed Tryd.prog 9 := string_keyed Tryd.underlying9
/-- The map behind so many stores. -/
def recD (ps : List (ByteArray × Value)) : DataW Value := ps.foldl (fun m p => m.put (kS p.1) (.held p.2)) (.map [])
theorem recD_snoc (ps : List (ByteArray × Value)) (p : ByteArray × Value) : recD (ps ++ [p]) = (recD ps).put (kS p.1) (.held p.2) := by
  unfold recD
  rw [List.foldl_append]
  rfl
theorem tidy_fold2 (ps : List (ByteArray × Value)) : ∀ m : DataW Value, Tidy m → Tidy (ps.foldl (fun m p => m.put (kS p.1) (.held p.2)) m) := by
  induction ps with
  | nil => intro m h; exact h
  | cons p ps ih => intro m h; exact ih _ (h.put (kS_key _) _)
theorem recD_tidy (ps : List (ByteArray × Value)) : Tidy (recD ps) := tidy_fold2 ps _ tidy_empty
theorem sameKey_kS (x y : ByteArray) : (kS x).sameKey (kS y) = decide (x = y) := by
  by_cases h : x = y
  · subst h
    rw [decide_eq_true rfl]
    exact (WideAt.sameKey_iff (kS_key x)).2 rfl
  · rw [decide_eq_false h]
    exact sameKey_ne (fun e => h (kS_inj e))
theorem recD_has (x : ByteArray) : ∀ ps : List (ByteArray × Value), (Maps.has (recD ps) (kS x) = true ↔ x ∈ ps.map Prod.fst) := by
  intro ps
  have hrev : ∀ l : List (ByteArray × Value), (Maps.has (recD l.reverse) (kS x) = true ↔ x ∈ l.reverse.map Prod.fst) := by
    intro l
    induction l with
    | nil => exact ⟨fun h => (by cases h), fun h => (by cases h)⟩
    | cons p l ih =>
      rw [List.reverse_cons, recD_snoc]
      by_cases h : x = p.1
      · subst h
        rw [has_put_same (recD_tidy _).isMap (kS_key _)]
        simp
      · rw [has_put_other (fun e => h (kS_inj e)), ih]
        rw [List.map_append, List.mem_append]
        simp [h]
  have := hrev ps.reverse
  rw [List.reverse_reverse] at this
  exact this
theorem nodup_snoc {l : List ByteArray} {x : ByteArray} : (l ++ [x]).Nodup ↔ l.Nodup ∧ x ∉ l := by
  rw [List.nodup_append]
  constructor
  · rintro ⟨h1, -, h2⟩
    exact ⟨h1, fun h => h2 x h x (by simp) rfl⟩
  · rintro ⟨h1, h2⟩
    exact ⟨h1, by simp, fun a ha b hb e => by rw [List.mem_singleton.1 hb] at e; rw [e] at ha; exact h2 ha⟩
theorem recD_size : ∀ ps : List (ByteArray × Value), Maps.size (recD ps) ≤ ps.length ∧ (Maps.size (recD ps) = ps.length ↔ (ps.map Prod.fst).Nodup) := by
  intro ps
  have hrev : ∀ l : List (ByteArray × Value), Maps.size (recD l.reverse) ≤ l.reverse.length ∧ (Maps.size (recD l.reverse) = l.reverse.length ↔ (l.reverse.map Prod.fst).Nodup) := by
    intro l
    induction l with
    | nil => exact ⟨Nat.le_refl _, by simp [recD, Maps.size]⟩
    | cons p l ih =>
      rw [List.reverse_cons, recD_snoc, size_put (recD_tidy _), List.map_append, List.map_cons, List.map_nil, nodup_snoc, List.length_append]
      obtain ⟨h1, h2⟩ := ih
      by_cases h : p.1 ∈ l.reverse.map Prod.fst
      · rw [(recD_has _ _).2 h, if_pos rfl]
        refine ⟨by simp only [List.length_cons, List.length_nil]; omega, ⟨fun e => ?_, fun e => absurd h e.2⟩⟩
        simp only [List.length_cons, List.length_nil] at e
        omega
      · rw [Bool.eq_false_iff.2 (fun e => h ((recD_has _ _).1 e)), if_neg (by simp)]
        refine ⟨by simp only [List.length_cons, List.length_nil]; omega, ⟨fun e => ⟨h2.1 (by simp only [List.length_cons, List.length_nil] at e; omega), h⟩, fun e => by have := h2.2 e.1; simp only [List.length_cons, List.length_nil]; omega⟩⟩
  have := hrev ps.reverse
  rw [List.reverse_reverse] at this
  exact this
theorem recD_at (x : ByteArray) (v : Value) (z : DataW Value) : ∀ ps : List (ByteArray × Value), (ps.map Prod.fst).Nodup → (x, v) ∈ ps → (recD ps).atKey (kS x) z = .held v := by
  intro ps
  have hrev : ∀ l : List (ByteArray × Value), (l.reverse.map Prod.fst).Nodup → (x, v) ∈ l.reverse → (recD l.reverse).atKey (kS x) z = .held v := by
    intro l
    induction l with
    | nil => intro _ h; cases h
    | cons p l ih =>
      intro hn hm
      rw [List.reverse_cons] at hn hm ⊢
      rw [recD_snoc]
      rw [List.map_append, List.map_cons, List.map_nil, nodup_snoc] at hn
      rcases List.mem_append.1 hm with h | h
      · have hx : x ∈ l.reverse.map Prod.fst := List.mem_map.2 ⟨(x, v), h, rfl⟩
        rw [atKey_put_other (fun e => hn.2 (by rw [← kS_inj e]; exact hx))]
        exact ih hn.1 h
      · have : (x, v) = p := by simpa using h
        subst this
        exact atKey_put_same (recD_tidy _).isMap (kS_key _) _ _
  have := hrev ps.reverse
  rw [List.reverse_reverse] at this
  exact this
def toB (l : List UInt8) : ByteArray := ⟨l.toArray⟩
theorem toB_data (x : ByteArray) : toB x.data.toList = x := by
  apply ByteArray.ext
  simp [toB]
theorem enc_toB (l : List (List UInt8)) : l.map encStr = strs (l.map toB) := by
  unfold strs
  rw [List.map_map]
  rfl
theorem enc_strs (l : List ByteArray) : (l.map fun x => x.data.toList).map encStr = strs l := by
  rw [enc_toB, List.map_map]
  congr 1
  rw [show (toB ∘ fun x : ByteArray => x.data.toList) = id from funext toB_data, List.map_id]
/-- The library's sort of texts of one's own: the same texts in some order. -/
theorem sort_w (base : Nat) (v : Value) (ns : List ByteArray) (w : World) (h : w.ownsRow base 9 1 v ns.length (strs ns)) (hn : ns.length ≤ 140737488351232) :
    Calls Tryd.prog 45 #[v] w fun e w' => e = .returned (.tuple #[]) ∧ ∃ ms : List ByteArray, ms.Perm ns ∧ w'.ownsRow base 9 1 v ns.length (strs ms) ∧ w.grownBy w' v.ownBlock := by
  rcases h.2 with ⟨rfl, h0⟩ | ⟨g, cap, cur, rfl, hg, hb, h1, h2, h3, h4⟩
  · have : ns = [] := List.eq_nil_of_length_eq_zero h0
    subst this
    refine (Tryd.slices_Sort_string_none none 0 w).mono ?_
    rintro e w' ⟨rfl, rfl⟩
    exact ⟨rfl, [], List.Perm.refl _, h, ⟨rfl, rfl, rfl, Nat.le_refl _, fun _ _ _ => rfl⟩⟩
  · have h4' : cur.toList.take (ns.map fun x => x.data.toList).length = (ns.map fun x => x.data.toList).map encStr := by
      rw [enc_strs, List.length_map, ← h4, Nat.mul_one]
    have hH := holds_of_block (ss := ns.map fun x => x.data.toList) hb h4'
    have hs := Tryd.slices_Sort_string g 0 cap (ns.map fun x => x.data.toList) w hH (Array.getElem?_eq_some_iff.1 hb).1 (by rw [List.length_map]; omega)
    rw [List.length_map] at hs
    refine hs.mono ?_
    rintro e w' ⟨rfl, n, os, rfl⟩
    obtain ⟨ts, hts⟩ : ∃ ts, ts = (ns.map fun x => x.data.toList).mergeSort fun x y => decide (x ≤ y) := ⟨_, rfl⟩
    rw [← hts]
    have hp : ts.Perm (ns.map fun x => x.data.toList) := by rw [hts]; exact List.mergeSort_perm _ _
    have hl : ts.length = (ns.map fun x => x.data.toList).length := hp.length_eq
    have ho := ownsRow_sorted (n := n) (os := os) hl hg hb (by rw [List.length_map]; exact h1) h2 h3
    rw [enc_toB, List.length_map] at ho
    refine ⟨rfl, ts.map toB, ?_, ho, grownBy_sorted _⟩
    have := hp.map toB
    rw [List.map_map, show (toB ∘ fun x : ByteArray => x.data.toList) = id from funext toB_data, List.map_id] at this
    exact this
end Go.Proofs.YtmnfmgoolimlmaaDoor
