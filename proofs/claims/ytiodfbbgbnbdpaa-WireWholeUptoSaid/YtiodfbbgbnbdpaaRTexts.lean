/- wire.texts at the reader, into a row that is nil. -/
import Derived.Test.YtiodfbbgbnbdpaaRepPlain
import Derived.Test.YtiodfbbgbnbdpaaWTexts
namespace Go.Proofs.Ytiodfbbgbnbdpaa
set_option linter.unusedSimpArgs false
set_option linter.unusedVariables false
open Go.RowKit
open Crc
theorem rm_byte (g : Nat) (W : World) : (method 92 68 (.pointer (some ⟨g, 0, none⟩)) "lictor/wire.byte").run Try.prog W = .ok (82, .pointer (some ⟨g, 0, none⟩)) W := by kernel_rfl
theorem set_self {l : List Value} {o : Nat} {v : Value} (h : l[o]? = some v) : l.set o v = l := by
  apply List.ext_getElem?
  intro i
  rw [List.getElem?_set]
  by_cases hi : o = i
  · subst hi; rw [if_pos rfl, if_pos (List.getElem?_eq_some_iff.1 h).1, h]
  · rw [if_neg hi]
theorem Kp2.blk {B g A k : Nat} {w w' : World} {vs : List Value} {t : TypeId} (h : Kp2 B g A w w') (hb : Blk w k vs t) (h1 : k ≠ g) (h2 : k ≠ A) : Blk w' k vs t := hb.kp2 h h1 h2
theorem strs_get {j n : Nat} {a : List ByteArray} (ha : a.length = j) (hj : j < n) : (strs (a ++ List.replicate (n - j) e0))[j]? = some (.string e0) := by
  obtain ⟨m, hm⟩ : ∃ m, n - j = m + 1 := ⟨n - j - 1, by omega⟩
  simp only [strs, List.getElem?_map]
  rw [List.getElem?_append_right (by omega), ha, Nat.sub_self, hm]
  rfl
theorem strs_next {j n : Nat} {a : List ByteArray} (ha : a.length = j) (hj : j < n) (t : ByteArray) : (strs (a ++ List.replicate (n - j) e0)).set j (.string t) = strs (a ++ [t] ++ List.replicate (n - (j + 1)) e0) := by
  have := strs_fill [] a (n - (j + 1)) t
  simp only [List.nil_append, List.length_nil, Nat.zero_add, ha] at this
  rw [show n - j = (n - (j + 1)) + 1 by omega]
  exact this
theorem texts_blk {w : World} {G : Nat} {l : List ByteArray} (h : Blk w G (strs l) 9) : Texts w (some ⟨G, 0, none⟩) l :=
  ⟨by rw [strs_length]; omega, fun _ => ⟨G, 0, rfl, fun j u hj => by rw [Nat.zero_add, h.cell]; exact hj⟩⟩
/-- The row that was read: texts, in a block of its own. -/
def RowR (w0 w : World) (v : Value) (l : List ByteArray) : Prop := ∃ ad cap, v = .slice ad l.length cap ∧ Texts w ad l ∧ ∀ b o', ad = some ⟨b, o', none⟩ → w0.heap.size ≤ b ∧ b < w.heap.size ∧ Small w b
theorem RowR.keep {w0 w w' : World} {v : Value} {l : List ByteArray} (h : RowR w0 w v l) (hs : w.heap.size ≤ w'.heap.size) (hk : ∀ b, w0.heap.size ≤ b → b < w.heap.size → w'.heap[b]? = w.heap[b]?) : RowR w0 w' v l := by
  obtain ⟨ad, cap, h1, h2, h3⟩ := h
  refine ⟨ad, cap, h1, Texts.keep h2 (fun _ b o' e => hk b (h3 b o' e).1 (h3 b o' e).2.1), fun b o' e => ⟨(h3 b o' e).1, Nat.lt_of_lt_of_le (h3 b o' e).2.1 hs, fun cs fz hc => (h3 b o' e).2.2 cs fz ?_⟩⟩
  rw [← hk b (h3 b o' e).1 (h3 b o' e).2.1]
  exact hc
set_option maxRecDepth 100000 in
set_option maxHeartbeats 2000000 in
theorem rtexts_w {B g A o : Nat} {x : Lf} {w : World} {vs : List Value} {T : TypeId} (hg : B ≤ g) (hA : B ≤ A) (hne : A ≠ g) (h : Lb w g x) (hx : x.l.length ≤ 140737488351232) (ha : Blk w A vs T) (hu : vs[o]? = some (.slice none 0 0)) :
    Calls Try.prog 42 #[.iface 68 (.pointer (some ⟨g, 0, none⟩)), .pointer (some ⟨A, o, none⟩)] w fun e w' => e = .returned (.tuple #[]) ∧ Lb w' g (tsL x).2 ∧ (∃ v, Blk w' A (vs.set o v) T ∧ RowR w w' v (tsL x).1) ∧ Kp2 B g A w w' := by
  have hgl := h.lt
  have hAl := ha.lt
  have hbl := byteL_len x
  have hrec : tsL x = textsL (byteL x).1.toNat (byteL x).2 := rfl
  have hby := fun (W : World) (K : Nat) (hK : w.heap.size ≤ K) (hW : Lb W g x) (hk : Blk W K [.int .u8 0] 5) => rbyte_w (B := B) (g := g) (A := K) (o := 0) (u0 := .int .u8 0) hg (by omega) (by omega) hW hx hk rfl
  obtain ⟨R, hR⟩ := named (byteL x)
  simp only [← hR.out] at hbl hrec hby
  clear hR
  obtain ⟨c, y⟩ := R
  simp only at hbl hrec hby
  have hc255 := c.toNat_lt
  have hmin : min (0 : Int) 255 = 0 := by decide
  obtain ⟨n, hn⟩ := named c.toNat
  simp only [← hn.out] at hrec hby hc255
  have HN := hide hn.out
  rw [hrec]
  have hal := below_alloc w (.cells #[.int .u8 0] 5)
  have h1 := h.kp hal
  have a1 := ha.below hal
  have K1 := Blk.new w [.int .u8 0] 5
  have kp1 : Kp2 B g A w (w.alloc (.cells #[.int .u8 0] 5)) := Kp2.of hal (by omega)
  have xA : w.cell? ⟨A, o, none⟩ = some (.slice none 0 0) := by rw [ha.cell]; exact hu
  have hm1 := rm_byte
  clear hn hrec h ha hal
  go_enter Try.func42, Try.ntmps42
  go_upto_region 3 with fail
  obtain ⟨K, hKn⟩ := named w.heap.size
  have hKle : w.heap.size ≤ K := by rw [hKn.out]; exact Nat.le_refl _
  obtain ⟨w1, hw1⟩ := named (w.alloc (.cells #[.int .u8 0] 5))
  have hw1s : w1.heap.size = K + 1 := by rw [hw1.out, hKn.out]; simp
  rw [← hKn.out] at K1 hgl hAl ⊢
  rw [← hw1.out] at h1 a1 K1 kp1 ⊢
  have HKN := hide hKn.out
  have HW1 := hide hw1s
  clear hKn hw1 xA hw1s
  have hb := hby w1 K hKle h1 K1
  go_wp2_with fail
  refine hb.mono ?_
  rintro e w2 ⟨rfl, h2, K2, kp2⟩
  replace K2 : Blk w2 K [.int .u8 (n : Int)] 5 := K2
  have a2 := a1.kp2 kp2 (by omega) (by omega)
  have kp3 : Kp2 B g A w w2 := ⟨fun k hk h1 h2 => (kp2.1 k (by have := kp1.size; omega) h1 (by have := HKN.out; omega)).trans (kp1.1 k hk h1 h2), kp1.2.trans kp2.2⟩
  have hs2 : K + 1 ≤ w2.heap.size := by have := kp2.size; have := HW1.out; omega
  have xK := K2.cell
  have xA : w2.cell? ⟨A, o, none⟩ = some (.slice none 0 0) := by rw [a2.cell]; exact hu
  clear hb hby h1 a1 K1 kp1 kp2 hKle
  by_cases hn0 : n = 0
  case pos =>
    subst hn0
    have hz2 : ¬ (0 : Int) < ((0 : Nat) : Int) := by decide
    have hmin2 : min (0 : Int) 0 = 0 := by decide
    rw [show ((0 : Nat) : Int) = 0 from rfl] at hz2 xK
    go_wp2_with fail
    refine region_flatS _ (fun L u => Hid (u = w2.drew) ∧ u.cell? ⟨A, o, none⟩ = some (.slice none 0 0) ∧ ∀ i, u.cell? ⟨K, i, none⟩ = [Value.int .u8 0][i]?) (fun _ _ _ => True)
      (fun _ => rel [fun v _ => v = .pointer (some ⟨A, o, none⟩),
        fun v _ => v = .pointer (some ⟨A, o, none⟩),
        fun v _ => v = .slice none 0 0,
        fun v _ => v = .int .i64 0,
        fun v _ => v = .int .u8 0,
        fun v _ => v = .int .i64 0,
        fun v _ => v = .int .i64 0,
        fun v _ => v = .int .i64 0])
      (by kernel_rfl) (by kernel_rfl) (fun v => by simp only [putsV, Act.put, List.toList_toArray, List.setIfInBounds_toArray, List.set_cons_zero, List.set_cons_succ, Nat.reduceAdd, Nat.zero_add]; rfl) ?_ (fun _ _ _ _ _ h => h) ⟨hide rfl, xA, xK⟩ ?_ (fun _ _ _ _ _ _ h => h) (fun L L' u hL h => by  exact h) ?_
    · intro i L j x u u' _ _ hG h
      match j with
      | 0 => exact h
      | 1 => exact h
      | 2 => exact h
      | 3 => exact h
      | 4 => exact h
      | 5 => exact h
      | 6 => exact h
      | 7 => exact h
      | _ + 8 => trivial
    · refine ⟨?_, ?_, ?_, ?_, ?_, ?_, ?_, ?_, trivial⟩
      · intro L hL hcl v u hS hd K' hK
        simp only [waited, List.toList_toArray, Region.binds, rel, List.getD_cons_zero, List.getD_cons_succ, true_imp_iff, and_true] at hd
        simp only [rel, List.getD_cons_zero, List.getD_cons_succ, Act.put, List.setIfInBounds_toArray, List.set_cons_zero, List.set_cons_succ] at hK
        try simp only [hd] at hK
        go_simp
        exact hK.out _ _ ⟨hS, trivial, rfl⟩
      · intro L hL hcl v u hS hd K' hK
        simp only [waited, List.toList_toArray, Region.binds, rel, List.getD_cons_zero, List.getD_cons_succ, true_imp_iff, and_true] at hd
        simp only [rel, List.getD_cons_zero, List.getD_cons_succ, Act.put, List.setIfInBounds_toArray, List.set_cons_zero, List.set_cons_succ] at hK
        try simp only [hd] at hK
        go_simp
        exact hK.out _ _ ⟨hS, trivial, rfl⟩
      · intro L hL hcl v u hS hd K' hK
        simp only [waited, List.toList_toArray, Region.binds, rel, List.getD_cons_zero, List.getD_cons_succ, true_imp_iff, and_true] at hd
        simp only [rel, List.getD_cons_zero, List.getD_cons_succ, Act.put, List.setIfInBounds_toArray, List.set_cons_zero, List.set_cons_succ] at hK
        try simp only [hd] at hK
        have x0 := hS.2.1
        go_simp
        exact hK.out _ _ ⟨hS, trivial, rfl⟩
      · intro L hL hcl v u hS hd K' hK
        simp only [waited, List.toList_toArray, Region.binds, rel, List.getD_cons_zero, List.getD_cons_succ, true_imp_iff, and_true] at hd
        simp only [rel, List.getD_cons_zero, List.getD_cons_succ, Act.put, List.setIfInBounds_toArray, List.set_cons_zero, List.set_cons_succ] at hK
        try simp only [hd] at hK
        go_simp
        exact hK.out _ _ ⟨hS, trivial, rfl⟩
      · intro L hL hcl v u hS hd K' hK
        simp only [waited, List.toList_toArray, Region.binds, rel, List.getD_cons_zero, List.getD_cons_succ, true_imp_iff, and_true] at hd
        simp only [rel, List.getD_cons_zero, List.getD_cons_succ, Act.put, List.setIfInBounds_toArray, List.set_cons_zero, List.set_cons_succ] at hK
        try simp only [hd] at hK
        have x0 := hS.2.2 0
        go_simp
        exact hK.out _ _ ⟨hS, trivial, rfl⟩
      · intro L hL hcl v u hS hd K' hK
        simp only [waited, List.toList_toArray, Region.binds, rel, List.getD_cons_zero, List.getD_cons_succ, true_imp_iff, and_true] at hd
        simp only [rel, List.getD_cons_zero, List.getD_cons_succ, Act.put, List.setIfInBounds_toArray, List.set_cons_zero, List.set_cons_succ] at hK
        try simp only [hd] at hK
        go_simp
        exact hK.out _ _ ⟨hS, trivial, rfl⟩
      · intro L hL hcl v u hS hd K' hK
        simp only [waited, List.toList_toArray, Region.binds, rel, List.getD_cons_zero, List.getD_cons_succ, true_imp_iff, and_true] at hd
        simp only [rel, List.getD_cons_zero, List.getD_cons_succ, Act.put, List.setIfInBounds_toArray, List.set_cons_zero, List.set_cons_succ] at hK
        try simp only [hd] at hK
        go_simp
        exact hK.out _ _ ⟨hS, trivial, rfl⟩
      · intro L hL hcl v u hS hd K' hK
        simp only [waited, List.toList_toArray, Region.binds, rel, List.getD_cons_zero, List.getD_cons_succ, true_imp_iff, and_true] at hd
        simp only [rel, List.getD_cons_zero, List.getD_cons_succ, Act.put, List.setIfInBounds_toArray, List.set_cons_zero, List.set_cons_succ] at hK
        try simp only [hd] at hK
        go_simp
        exact hK.out _ _ ⟨hS, trivial, rfl⟩
    · rintro v u hS hR
      simp only [holdAll, List.size_toArray, List.length_cons, List.length_nil, Nat.reduceAdd, rel, List.getD_cons_zero, List.getD_cons_succ] at hR
      obtain ⟨-, h7⟩ := (And.intro hR.1.2 hR.2 : _ ∧ _)
      have h6 := hR.1.2
      simp only [h6, h7]
      have hu9 : u = w2.drew := hS.1.out
      clear h6 h7 hR hS
      rw [hu9]
      clear hu9 xK xA
      have h5 : Lb w2.drew g y := h2
      have a5 : Blk w2.drew A vs T := a2
      have kp5 : Kp2 B g A w w2.drew := kp3.drew
      obtain ⟨w4, hw4⟩ := named w2.drew
      rw [← hw4.out] at h5 a5 kp5 ⊢
      clear hw4 h2 a2 kp3 K2
      go_wp2_with fail
      go_loopw [41] (fun i wr => i = .int .i64 0 ∧ Hid (wr = w4)) (fun _ _ => 0)
      case atStart => exact ⟨rfl, hide rfl⟩
      case round =>
        obtain ⟨rfl, hw⟩ := hrel
        have h6 : Lb wr g y := by rw [hw.out]; exact h5
        have a6 : Blk wr A (vs.set o (.slice none 0 0)) T := by
          rw [hw.out, set_self hu]
          exact a5
        have kp6 : Kp2 B g A w wr := by rw [hw.out]; exact kp5
        clear hw h5 a5 kp5
        go_wp2
        go_end0
        exact ⟨rfl, h6, ⟨_, a6, none, 0, rfl, ⟨rfl, fun h => absurd rfl h⟩, fun b o' e => (by cases e)⟩, kp6⟩
  case neg =>
    have hnI : (0 : Int) < (n : Int) := by omega
    have hnd : decide ((0 : Int) < (n : Int)) = true := by simpa using hnI
    have hnd2 : decide (0 < n) = true := by simp; omega
    have hmn : min (n : Int) (n : Int) = (n : Int) := by omega
    have hwn : IntKind.i64.wrap (n : Int) = (n : Int) := by simp [IntKind.wrap, IntKind.bits, IntKind.signed]; omega
    have hmk := fun w => run_make_row' (P := Try.prog) 40 9 (.string ⟨#[]⟩) 16 Try.underlying40 Try.info9 rfl .u8 .u8 n (by omega) (by omega) w
    rw [made_rep] at hmk
    rw [show (List.replicate n (.string ⟨#[]⟩ : Value)) = strs (List.replicate n e0) by simp [strs, e0]] at hmk
    obtain ⟨cs, hcs⟩ := named (strs (List.replicate n e0)).toArray
    rw [← hcs.out] at hmk
    have hmk' : ∀ w, (Instr.makeSlice 40 (.int .u8 (n : Int)) (.int .u8 (n : Int))).run Try.prog w = .ok (.slice (some ⟨w.heap.size, 0, none⟩) n n) (w.alloc (.cells cs 9)) := hmk
    clear hmk
    have G3 : Blk (w2.alloc (.cells cs 9)) w2.heap.size (strs (List.replicate n e0)) 9 := by rw [hcs.out]; exact Blk.new w2 _ _
    have hal := below_alloc w2 (.cells cs 9)
    have h3 := h2.kp hal
    have a3 := a2.below hal
    have K3 := K2.below hal
    have kp4 := kp3.trans (Kp2.of (g := g) (A := A) hal (by omega))
    have xA3 : (w2.alloc (.cells cs 9)).cell? ⟨A, o, none⟩ = some (.slice none 0 0) := by rw [a3.cell]; exact hu
    have fA3 := a3.free o
    have hG2 : K + 1 ≤ w2.heap.size := hs2
    clear hcs hal h2 a2 K2 kp3
    have a4 := a3.set o (.slice (some ⟨w2.heap.size, 0, none⟩) n n)
    have h4 : Lb ((w2.alloc (.cells cs 9)).setCell ⟨A, o, none⟩ (.slice (some ⟨w2.heap.size, 0, none⟩) n n)) g y := Blk.far h3 (p := ⟨A, o, none⟩) (Ne.symm hne) _
    have K4 := K3.far (p := ⟨A, o, none⟩) (by show K ≠ A; omega) (.slice (some ⟨w2.heap.size, 0, none⟩) n n)
    have G4 := G3.far (p := ⟨A, o, none⟩) (by show w2.heap.size ≠ A; omega) (.slice (some ⟨w2.heap.size, 0, none⟩) n n)
    have kp5 := kp4.set hA o (.slice (some ⟨w2.heap.size, 0, none⟩) n n)
    have hs4 : w2.heap.size < ((w2.alloc (.cells cs 9)).setCell ⟨A, o, none⟩ (.slice (some ⟨w2.heap.size, 0, none⟩) n n)).heap.size := by rw [World.size_setCell]; simp
    clear a3 h3 K3 G3 kp4
    go_upto_if 29 with fail
    go_upto_region 6 with fail
    obtain ⟨G, hGn⟩ := named w2.heap.size
    rw [← hGn.out] at a4 h4 K4 G4 kp5 hs4 hG2 ⊢
    obtain ⟨w5, hw5⟩ := named ((w2.alloc (.cells cs 9)).setCell ⟨A, o, none⟩ (.slice (some ⟨G, 0, none⟩) n n))
    rw [← hw5.out] at a4 h4 K4 G4 kp5 hs4 ⊢
    clear hGn hw5 xA xK xA3 fA3 hmk' hs2
    have xK := K4.cell
    have xA : w5.cell? ⟨A, o, none⟩ = some (.slice (some ⟨G, 0, none⟩) n n) := by rw [a4.cell]; simp [List.getElem?_set]; exact (List.getElem?_eq_some_iff.1 hu).1
    go_wp2_with fail
    refine region_flatS _ (fun L u => Hid (u = w5.drew) ∧ u.cell? ⟨A, o, none⟩ = some (.slice (some ⟨G, 0, none⟩) n n) ∧ ∀ i, u.cell? ⟨K, i, none⟩ = [Value.int .u8 (n : Int)][i]?) (fun _ _ _ => True)
      (fun _ => rel [fun v _ => v = .pointer (some ⟨A, o, none⟩),
        fun v _ => v = .pointer (some ⟨A, o, none⟩),
        fun v _ => v = .slice (some ⟨G, 0, none⟩) n n,
        fun v _ => v = .int .i64 (n : Int),
        fun v _ => v = .int .u8 (n : Int),
        fun v _ => v = .int .i64 (n : Int),
        fun v _ => v = .int .i64 (n : Int),
        fun v _ => v = .int .i64 0])
      (by kernel_rfl) (by kernel_rfl) (fun v => by simp only [putsV, Act.put, List.toList_toArray, List.setIfInBounds_toArray, List.set_cons_zero, List.set_cons_succ, Nat.reduceAdd, Nat.zero_add]; rfl) ?_ (fun _ _ _ _ _ h => h) ⟨hide rfl, xA, xK⟩ ?_ (fun _ _ _ _ _ _ h => h) (fun L L' u hL h => by  exact h) ?_
    · intro i L j x u u' _ _ hG h
      match j with
      | 0 => exact h
      | 1 => exact h
      | 2 => exact h
      | 3 => exact h
      | 4 => exact h
      | 5 => exact h
      | 6 => exact h
      | 7 => exact h
      | _ + 8 => trivial
    · refine ⟨?_, ?_, ?_, ?_, ?_, ?_, ?_, ?_, trivial⟩
      · intro L hL hcl v u hS hd K' hK
        simp only [waited, List.toList_toArray, Region.binds, rel, List.getD_cons_zero, List.getD_cons_succ, true_imp_iff, and_true] at hd
        simp only [rel, List.getD_cons_zero, List.getD_cons_succ, Act.put, List.setIfInBounds_toArray, List.set_cons_zero, List.set_cons_succ] at hK
        try simp only [hd] at hK
        go_simp
        exact hK.out _ _ ⟨hS, trivial, rfl⟩
      · intro L hL hcl v u hS hd K' hK
        simp only [waited, List.toList_toArray, Region.binds, rel, List.getD_cons_zero, List.getD_cons_succ, true_imp_iff, and_true] at hd
        simp only [rel, List.getD_cons_zero, List.getD_cons_succ, Act.put, List.setIfInBounds_toArray, List.set_cons_zero, List.set_cons_succ] at hK
        try simp only [hd] at hK
        go_simp
        exact hK.out _ _ ⟨hS, trivial, rfl⟩
      · intro L hL hcl v u hS hd K' hK
        simp only [waited, List.toList_toArray, Region.binds, rel, List.getD_cons_zero, List.getD_cons_succ, true_imp_iff, and_true] at hd
        simp only [rel, List.getD_cons_zero, List.getD_cons_succ, Act.put, List.setIfInBounds_toArray, List.set_cons_zero, List.set_cons_succ] at hK
        try simp only [hd] at hK
        have x0 := hS.2.1
        go_simp
        exact hK.out _ _ ⟨hS, trivial, rfl⟩
      · intro L hL hcl v u hS hd K' hK
        simp only [waited, List.toList_toArray, Region.binds, rel, List.getD_cons_zero, List.getD_cons_succ, true_imp_iff, and_true] at hd
        simp only [rel, List.getD_cons_zero, List.getD_cons_succ, Act.put, List.setIfInBounds_toArray, List.set_cons_zero, List.set_cons_succ] at hK
        try simp only [hd] at hK
        go_simp
        exact hK.out _ _ ⟨hS, trivial, rfl⟩
      · intro L hL hcl v u hS hd K' hK
        simp only [waited, List.toList_toArray, Region.binds, rel, List.getD_cons_zero, List.getD_cons_succ, true_imp_iff, and_true] at hd
        simp only [rel, List.getD_cons_zero, List.getD_cons_succ, Act.put, List.setIfInBounds_toArray, List.set_cons_zero, List.set_cons_succ] at hK
        try simp only [hd] at hK
        have x0 := hS.2.2 0
        go_simp
        exact hK.out _ _ ⟨hS, trivial, rfl⟩
      · intro L hL hcl v u hS hd K' hK
        simp only [waited, List.toList_toArray, Region.binds, rel, List.getD_cons_zero, List.getD_cons_succ, true_imp_iff, and_true] at hd
        simp only [rel, List.getD_cons_zero, List.getD_cons_succ, Act.put, List.setIfInBounds_toArray, List.set_cons_zero, List.set_cons_succ] at hK
        try simp only [hd] at hK
        go_simp
        exact hK.out _ _ ⟨hS, trivial, rfl⟩
      · intro L hL hcl v u hS hd K' hK
        simp only [waited, List.toList_toArray, Region.binds, rel, List.getD_cons_zero, List.getD_cons_succ, true_imp_iff, and_true] at hd
        simp only [rel, List.getD_cons_zero, List.getD_cons_succ, Act.put, List.setIfInBounds_toArray, List.set_cons_zero, List.set_cons_succ] at hK
        try simp only [hd] at hK
        go_simp
        exact hK.out _ _ ⟨hS, trivial, rfl⟩
      · intro L hL hcl v u hS hd K' hK
        simp only [waited, List.toList_toArray, Region.binds, rel, List.getD_cons_zero, List.getD_cons_succ, true_imp_iff, and_true] at hd
        simp only [rel, List.getD_cons_zero, List.getD_cons_succ, Act.put, List.setIfInBounds_toArray, List.set_cons_zero, List.set_cons_succ] at hK
        try simp only [hd] at hK
        go_simp
        exact hK.out _ _ ⟨hS, trivial, rfl⟩
    · rintro v u hS hR
      simp only [holdAll, List.size_toArray, List.length_cons, List.length_nil, Nat.reduceAdd, rel, List.getD_cons_zero, List.getD_cons_succ] at hR
      obtain ⟨-, h7⟩ := (And.intro hR.1.2 hR.2 : _ ∧ _)
      have h6 := hR.1.2
      simp only [h6, h7]
      have hu9 : u = w5.drew := hS.1.out
      clear h6 h7 hR hS
      rw [hu9]
      clear hu9 xK xA
      have h5 : Lb w5.drew g y := h4
      have a5 : Blk w5.drew A (vs.set o (.slice (some ⟨G, 0, none⟩) n n)) T := a4
      have G5 : Blk w5.drew G (strs (List.replicate n e0)) 9 := G4
      have kp6 : Kp2 B g A w w5.drew := kp5.drew
      obtain ⟨w6, hw6⟩ := named w5.drew
      rw [← hw6.out] at h5 a5 G5 kp6 ⊢
      clear hw6 h4 a4 G4 kp5 K4 hs4
      have hget : (vs.set o (.slice (some ⟨G, 0, none⟩) n n))[o]? = some (.slice (some ⟨G, 0, none⟩) n n) := by simp [List.getElem?_set]; exact (List.getElem?_eq_some_iff.1 hu).1
      go_wp2_with fail
      go_loopw [41] (fun i wr => ∃ j : Nat, j ≤ n ∧ i = .int .i64 (j : Int) ∧ Lb wr g (textsL j y).2 ∧ Blk wr A (vs.set o (.slice (some ⟨G, 0, none⟩) n n)) T ∧ Blk wr G (strs ((textsL j y).1 ++ List.replicate (n - j) e0)) 9 ∧ Kp2 B g A w wr) (fun i _ => n - (intOf i).toNat)
      case atStart => exact ⟨0, by omega, rfl, h5, a5, G5, kp6⟩
      case round =>
        clear h5 a5 G5 kp6
        obtain ⟨j, hjn, rfl, h5, a5, G5, kp6⟩ := hrel
        by_cases hj : j < n
        · have hjI : (j : Int) < (n : Int) := by omega
          have hj0 : (0 : Int) ≤ (j : Int) := by omega
          have hjl := textsL_length j y
          have hlen := textsL_len j y
          have htx := fun (W : World) (hW : Lb W g (textsL j y).2) (hk : Blk W G (strs ((textsL j y).1 ++ List.replicate (n - j) e0)) 9) => rtext_w (B := B) (g := g) (A := G) (o := j) hg (by omega) (by omega) hW (by omega) hk (strs_get hjl hj)
          have hnx : (strs ((textsL j y).1 ++ List.replicate (n - j) e0)).set j (.string (str (textL (textsL j y).2).1)) = strs ((textsL (j + 1) y).1 ++ List.replicate (n - (j + 1)) e0) := strs_next hjl hj _
          have hmt := rm_text
          have hmf := make_func
          clear hjl hlen hmn hnd hnd2 hwn
          go_wp2_with fail
          refine region_flatS _ (fun L u => Lb u g (cond (L 9) (textsL (j + 1) y).2 (textsL j y).2) ∧ Blk u A (vs.set o (.slice (some ⟨G, 0, none⟩) n n)) T ∧ Blk u G (cond (L 9) (strs ((textsL (j + 1) y).1 ++ List.replicate (n - (j + 1)) e0)) (strs ((textsL j y).1 ++ List.replicate (n - j) e0))) 9 ∧ Kp2 B g A w u) (fun _ _ _ => True)
            (fun _ => rel [fun v _ => v = .iface 68 (.pointer (some ⟨g, 0, none⟩)),
              fun v _ => v = .pointer (some ⟨A, o, none⟩),
              fun v _ => v = .pointer (some ⟨A, o, none⟩),
              fun v _ => v = .slice (some ⟨G, 0, none⟩) n n,
              fun v _ => v = .int .i64 (j : Int),
              fun v _ => v = .pointer (some ⟨G, j, none⟩),
              fun v _ => v = .func (Fn.method "lictor/wire.text") #[.iface 68 (.pointer (some ⟨g, 0, none⟩))] #[],
              fun v _ => v = .func (Fn.method "lictor/wire.text") #[.iface 68 (.pointer (some ⟨g, 0, none⟩))] #[],
              fun v _ => v = .iface 68 (.pointer (some ⟨g, 0, none⟩)),
              fun _ _ => True])
            (by kernel_rfl) (by kernel_rfl) (fun v => by simp only [putsV, Act.put, List.toList_toArray, List.setIfInBounds_toArray, List.set_cons_zero, List.set_cons_succ, Nat.reduceAdd, Nat.zero_add]; rfl) ?_ (fun _ _ _ _ _ h => h) ⟨h5, a5, G5, kp6.drew⟩ ?_ (fun _ _ _ _ _ _ h => h) (fun L L' u hL h => by rw [← hL 9 (by decide)]; exact h) ?_
          · intro i L j x u u' _ _ hG h
            match j with
            | 0 => exact h
            | 1 => exact h
            | 2 => exact h
            | 3 => exact h
            | 4 => exact h
            | 5 => exact h
            | 6 => exact h
            | 7 => exact h
            | 8 => exact h
            | 9 => exact h
            | _ + 10 => trivial
          · refine ⟨?_, ?_, ?_, ?_, ?_, ?_, ?_, ?_, ?_, ?_, trivial⟩
            · intro L hL hcl v u hS hd K' hK
              simp only [waited, List.toList_toArray, Region.binds, rel, List.getD_cons_zero, List.getD_cons_succ, true_imp_iff, and_true] at hd
              simp only [rel, List.getD_cons_zero, List.getD_cons_succ, Act.put, List.setIfInBounds_toArray, List.set_cons_zero, List.set_cons_succ] at hK
              try simp only [hd] at hK
              go_simp
              exact hK.out _ _ ⟨hS, trivial, rfl⟩
            · intro L hL hcl v u hS hd K' hK
              simp only [waited, List.toList_toArray, Region.binds, rel, List.getD_cons_zero, List.getD_cons_succ, true_imp_iff, and_true] at hd
              simp only [rel, List.getD_cons_zero, List.getD_cons_succ, Act.put, List.setIfInBounds_toArray, List.set_cons_zero, List.set_cons_succ] at hK
              try simp only [hd] at hK
              go_simp
              exact hK.out _ _ ⟨hS, trivial, rfl⟩
            · intro L hL hcl v u hS hd K' hK
              simp only [waited, List.toList_toArray, Region.binds, rel, List.getD_cons_zero, List.getD_cons_succ, true_imp_iff, and_true] at hd
              simp only [rel, List.getD_cons_zero, List.getD_cons_succ, Act.put, List.setIfInBounds_toArray, List.set_cons_zero, List.set_cons_succ] at hK
              try simp only [hd] at hK
              go_simp
              exact hK.out _ _ ⟨hS, trivial, rfl⟩
            · intro L hL hcl v u hS hd K' hK
              simp only [waited, List.toList_toArray, Region.binds, rel, List.getD_cons_zero, List.getD_cons_succ, true_imp_iff, and_true] at hd
              simp only [rel, List.getD_cons_zero, List.getD_cons_succ, Act.put, List.setIfInBounds_toArray, List.set_cons_zero, List.set_cons_succ] at hK
              try simp only [hd] at hK
              have x0 : u.cell? ⟨A, o, none⟩ = some (.slice (some ⟨G, 0, none⟩) n n) := by rw [hS.2.1.cell]; exact hget
              go_simp
              exact hK.out _ _ ⟨hS, trivial, rfl⟩
            · intro L hL hcl v u hS hd K' hK
              simp only [waited, List.toList_toArray, Region.binds, rel, List.getD_cons_zero, List.getD_cons_succ, true_imp_iff, and_true] at hd
              simp only [rel, List.getD_cons_zero, List.getD_cons_succ, Act.put, List.setIfInBounds_toArray, List.set_cons_zero, List.set_cons_succ] at hK
              try simp only [hd] at hK
              go_simp
              exact hK.out _ _ ⟨hS, trivial, rfl⟩
            · intro L hL hcl v u hS hd K' hK
              simp only [waited, List.toList_toArray, Region.binds, rel, List.getD_cons_zero, List.getD_cons_succ, true_imp_iff, and_true] at hd
              simp only [rel, List.getD_cons_zero, List.getD_cons_succ, Act.put, List.setIfInBounds_toArray, List.set_cons_zero, List.set_cons_succ] at hK
              try simp only [hd] at hK
              go_simp
              exact hK.out _ _ ⟨hS, trivial, rfl⟩
            · intro L hL hcl v u hS hd K' hK
              simp only [waited, List.toList_toArray, Region.binds, rel, List.getD_cons_zero, List.getD_cons_succ, true_imp_iff, and_true] at hd
              simp only [rel, List.getD_cons_zero, List.getD_cons_succ, Act.put, List.setIfInBounds_toArray, List.set_cons_zero, List.set_cons_succ] at hK
              try simp only [hd] at hK
              go_simp
              exact hK.out _ _ ⟨hS, trivial, rfl⟩
            · intro L hL hcl v u hS hd K' hK
              simp only [waited, List.toList_toArray, Region.binds, rel, List.getD_cons_zero, List.getD_cons_succ, true_imp_iff, and_true] at hd
              simp only [rel, List.getD_cons_zero, List.getD_cons_succ, Act.put, List.setIfInBounds_toArray, List.set_cons_zero, List.set_cons_succ] at hK
              try simp only [hd] at hK
              go_simp
              exact hK.out _ _ ⟨hS, trivial, rfl⟩
            · intro L hL hcl v u hS hd K' hK
              simp only [waited, List.toList_toArray, Region.binds, rel, List.getD_cons_zero, List.getD_cons_succ, true_imp_iff, and_true] at hd
              simp only [rel, List.getD_cons_zero, List.getD_cons_succ, Act.put, List.setIfInBounds_toArray, List.set_cons_zero, List.set_cons_succ] at hK
              try simp only [hd] at hK
              go_simp
              exact hK.out _ _ ⟨hS, trivial, rfl⟩
            · intro L hL hcl v u hS hd K' hK
              simp only [waited, List.toList_toArray, Region.binds, rel, List.getD_cons_zero, List.getD_cons_succ, true_imp_iff, and_true] at hd
              simp only [rel, List.getD_cons_zero, List.getD_cons_succ, Act.put, List.setIfInBounds_toArray, List.set_cons_zero, List.set_cons_succ] at hK
              try simp only [hd] at hK
              obtain ⟨t1, t2, t3, t4⟩ := hS
              rw [hL] at t1 t3
              have t1' : Lb u g (textsL j y).2 := t1
              have t3' : Blk u G (strs ((textsL j y).1 ++ List.replicate (n - j) e0)) 9 := t3
              go_simp
              refine (htx u t1' t3').mono ?_
              rintro e w6 ⟨rfl, h6, h7, h8⟩
              rw [hnx] at h7
              have t2' := t2.kp2 h8 hne (by omega)
              have t4' : Kp2 B g A w w6 := ⟨fun k hk q1 q2 => (h8.1 k (by have := t4.size; omega) q1 (by have := HKN.out; omega)).trans (t4.1 k hk q1 q2), t4.2.trans h8.2⟩
              exact hK.out _ _ ⟨⟨h6, t2', h7, t4'⟩, trivial, trivial⟩
          · rintro v u hS hR
            simp only [holdAll, List.size_toArray, List.length_cons, List.length_nil, Nat.reduceAdd, rel, List.getD_cons_zero, List.getD_cons_succ] at hR
            clear hR
            obtain ⟨t1, t2, t3, t4⟩ := hS
            replace t1 : Lb u g (textsL (j + 1) y).2 := t1
            replace t3 : Blk u G (strs ((textsL (j + 1) y).1 ++ List.replicate (n - (j + 1)) e0)) 9 := t3
            clear h5 a5 G5 kp6 htx hget hnx
            go_wp2
            go_roundw
            case rel => exact ⟨j + 1, by omega, by first | rfl | go_num, t1, t2, t3, t4⟩
            case measure => simp [intOf]; omega
        · obtain rfl : j = n := by omega
          rw [Nat.sub_self, List.replicate_zero, List.append_nil] at G5
          have hjl := textsL_length j y
          have HJL := hide hjl
          clear hj hjn hjl
          go_wp2
          go_end0
          refine ⟨rfl, h5, ⟨_, a5, some ⟨G, 0, none⟩, j, by rw [HJL.out], texts_blk G5, fun b o' e => ?_⟩, kp6⟩
          obtain ⟨rfl, _⟩ : G = b ∧ 0 = o' := by simpa using e
          exact ⟨by have := HKN.out; omega, G5.lt, small_blk G5 (by decide)⟩
end Go.Proofs.Ytiodfbbgbnbdpaa
