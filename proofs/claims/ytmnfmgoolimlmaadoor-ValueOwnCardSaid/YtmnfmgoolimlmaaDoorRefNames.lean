/- The document's Name. -/
import Derived.Test.YtmnfmgoolimlmaaDoorMem
import Derived.Test.YtmnfmgoolimlmaaDoorNames
import Derived.Deep.DeepCutAuto
namespace Go.Proofs.YtmnfmgoolimlmaaDoor
set_option linter.unusedSimpArgs false
set_option linter.unusedVariables false
open Go.RowKit
def kwV : List Value := kwords.map fun l => Value.string ⟨l.toArray⟩
set_option maxRecDepth 100000 in
theorem words_w (w : World) :
    Calls Tryd.prog 30 #[] w fun e w' => e = .returned (.slice (some ⟨w.heap.size, 0, none⟩) 19 19) ∧ w' = w.alloc (.cells kwV.toArray 9) := by
  go_enter Tryd.func30, Tryd.ntmps30
  go_wp2
  go_ret
  exact ⟨rfl, rfl⟩
theorem nameL_long {l : List UInt8} (h : ¬ l.length ≤ 64) : nameL l = false := by
  unfold nameL
  rw [decide_eq_false h]
  cases l.isEmpty <;> rfl
theorem nameL_kw {l : List UInt8} {k : Nat} (h : kwords[k]? = some l) : nameL l = false := by
  have : kwords.contains l = true := by
    rw [List.contains_iff_mem]
    exact List.mem_of_getElem? h
  unfold nameL
  rw [this]
  exact Bool.and_false _
theorem kw_none {l : List UInt8} (h : ∀ j < 19, ∀ x, kwords[j]? = some x → x ≠ l) : kwords.contains l = false := by
  cases hc : kwords.contains l with
  | false => rfl
  | true =>
    rw [List.contains_iff_mem] at hc
    obtain ⟨j, hj, e⟩ := List.mem_iff_getElem.1 hc
    exact absurd e (h j hj _ (List.getElem?_eq_getElem hj))
theorem cls (n : Nat) : (n < 48) ∨ (48 ≤ n ∧ n ≤ 57) ∨ (57 < n ∧ n < 65) ∨ (65 ≤ n ∧ n ≤ 90) ∨ (90 < n ∧ n < 95) ∨ (n = 95) ∨ (n = 96) ∨ (97 ≤ n ∧ n ≤ 122) ∨ (122 < n) := by omega
/-- What stands at a place of a name. -/
def okAt (j : Nat) (b : UInt8) : Bool := letB b || (decide (j ≠ 0) && digB b)
theorem ok_let {k : Nat} {b : UInt8} (h : (65 ≤ b.toNat ∧ b.toNat ≤ 90) ∨ b.toNat = 95 ∨ (97 ≤ b.toNat ∧ b.toNat ≤ 122)) : okAt k b = true := by
  unfold okAt letB
  rcases h with h | h | h <;> simp [h]
theorem ok_dig {k : Nat} {b : UInt8} (hk : k ≠ 0) (h : 48 ≤ b.toNat ∧ b.toNat ≤ 57) : okAt k b = true := by
  unfold okAt digB
  simp [h, hk]
theorem no_dig {b : UInt8} (h : 48 ≤ b.toNat ∧ b.toNat ≤ 57) : okAt 0 b = false := by
  unfold okAt letB
  simp
  omega
theorem no_oth {k : Nat} {b : UInt8} (h : b.toNat < 48 ∨ (57 < b.toNat ∧ b.toNat < 65) ∨ (90 < b.toNat ∧ b.toNat < 95) ∨ b.toNat = 96 ∨ 122 < b.toNat) : okAt k b = false := by
  unfold okAt letB digB
  simp
  omega
theorem ok_next {k : Nat} {b : UInt8} {l : List UInt8} (h : ∀ j < k, ∀ b, l[j]? = some b → okAt j b = true) (hb : l[k]? = some b) (hok : okAt k b = true) : ∀ j < k + 1, ∀ b, l[j]? = some b → okAt j b = true := by
  intro j hj x hx
  by_cases e : j = k
  · subst e
    rw [hb] at hx
    cases hx
    exact hok
  · exact h j (by omega) x hx
theorem ok_cls {k : Nat} {b : UInt8} (h : okAt k b = true) : (letB b || digB b) = true := by
  unfold okAt at h
  cases hl : letB b with
  | true => rfl
  | false => rw [hl] at h; simp at h; simp [h.2]
theorem name_no {l : List UInt8} {k : Nat} {b : UInt8} (hb : l[k]? = some b) (h : okAt k b = false) : nameL l = false := by
  cases hn : nameL l with
  | false => rfl
  | true =>
    unfold nameL at hn
    simp only [Bool.and_eq_true] at hn
    obtain ⟨⟨⟨⟨h1, h2⟩, h3⟩, h4⟩, h5⟩ := hn
    have h6 := List.all_eq_true.1 h4 b (List.mem_of_getElem? hb)
    unfold okAt at h
    cases hl : letB b with
    | true => rw [hl] at h; cases h
    | false =>
      rw [hl] at h h6
      simp only [Bool.false_or] at h h6
      rw [h6] at h
      simp at h
      subst h
      cases l with
      | nil => cases hb
      | cons a r =>
        simp at hb
        subst hb
        simp [h6] at h3
theorem name_yes {s : ByteArray} (he : s.toList.isEmpty = false) (hl : ¬ (64 : Int) < (s.size : Int)) (hc : kwords.contains s.data.toList = false) (h : ∀ j < s.size, ∀ b, s.data.toList[j]? = some b → okAt j b = true) : nameL s.data.toList = true := by
  rw [ByteArray.toList_eq] at he
  have hz : s.size = s.data.toList.length := Lib.size_eq s
  rw [hz] at hl h
  unfold nameL
  rw [he, hc, decide_eq_true (show s.data.toList.length ≤ 64 by omega)]
  have ha : s.data.toList.all (fun b => letB b || digB b) = true := by
    rw [List.all_eq_true]
    intro b hb
    obtain ⟨j, hj, e⟩ := List.mem_iff_getElem.1 hb
    exact ok_cls (h j hj b (by rw [← e]; exact List.getElem?_eq_getElem hj))
  have hd : digB (s.data.toList.headD 0) = false := by
    match hs : s.data.toList, he with
    | a :: r, _ =>
      have := h 0 (by rw [hs]; simp) a (by rw [hs]; rfl)
      unfold okAt letB at this
      unfold digB
      simp at this ⊢
      omega
  rw [ha, hd]
  rfl
theorem kw_cells (w : World) {k : Nat} (hk : k < 19) : ∃ l, kwords[k]? = some l ∧ (w.alloc (.cells kwV.toArray 9)).cell? ⟨w.heap.size, k, none⟩ = some (.string ⟨l.toArray⟩) := by
  have hl : k < kwords.length := hk
  refine ⟨kwords[k], List.getElem?_eq_getElem hl, ?_⟩
  rw [(Blk.new w kwV 9).cell]
  simp [kwV, List.getElem?_map, List.getElem?_eq_getElem hl]
set_option maxRecDepth 100000 in
set_option maxHeartbeats 400000 in
theorem refName_w (s : ByteArray) (w : World) (hs : s.size ≤ 140737488351232) :
    Calls Tryd.prog 9 #[.string s] w fun e w' => e = .returned (.bool (nameL s.data.toList)) ∧ Below w.heap.size w w' := by
  have hw := words_w w
  have hcell := @kw_cells w
  have hbel := below_alloc w (.cells kwV.toArray 9)
  obtain ⟨W, HW⟩ := named (w.alloc (.cells kwV.toArray 9))
  rw [← HW.out] at hcell hbel hw
  go_enter Tryd.func9, Tryd.ntmps9
  cases he : s.toList.isEmpty with
  | true =>
    go_wp2
    go_ret
    refine ⟨?_, Below.refl _ _⟩
    rw [show nameL s.data.toList = false by rw [ByteArray.toList_eq] at he; simp [nameL, he]]
    rfl
  | false =>
    by_cases hl : (64 : Int) < (s.size : Int)
    · go_wp2
      go_ret
      refine ⟨?_, Below.refl _ _⟩
      rw [show nameL s.data.toList = false from by
        have : ¬ s.data.toList.length ≤ 64 := by rw [← Lib.size_eq]; omega
        exact nameL_long this]
      rfl
    · go_wp2_with fail
      refine hw.mono ?_
      rintro e w1 ⟨rfl, rfl⟩
      clear hw HW
      go_wp2_with (go_quiet (fail))
      go_loopw [17] (fun i wr => ∃ k : Nat, k ≤ 19 ∧ i = .int .i64 k ∧ (∀ j < k, ∀ l, kwords[j]? = some l → l ≠ s.data.toList) ∧ ∃ m, wr = w1.drewN m) (fun i _ => 19 - (intOf i).toNat)
      case atStart => exact ⟨0, by omega, rfl, fun j hj => absurd hj (by omega), 0, rfl⟩
      case round =>
        obtain ⟨k, hk, rfl, hno, m, rfl⟩ := hrel
        by_cases hlt : k < 19
        · obtain ⟨l, hkl, hc⟩ := hcell hlt
          have hi0 : (0 : Int) ≤ (k : Int) := by omega
          have hi1 : (k : Int) < (19 : Int) := by omega
          cases hq : l == s.toList with
          | true =>
            have e1 : l = s.data.toList := by rw [ByteArray.toList_eq] at hq; exact eq_of_beq hq
            go_wp2_with (go_quiet (fail))
            go_ret
            refine ⟨?_, below_drewN hbel m⟩
            rw [← e1, nameL_kw hkl]
            rfl
          | false =>
            have e1 : l ≠ s.data.toList := by rw [ByteArray.toList_eq] at hq; exact ne_of_beq_false hq
            go_wp2_with (go_quiet (fail))
            go_roundw
            case rel =>
              refine ⟨k + 1, by omega, by go_num, fun j hj x hx => ?_, _, rfl⟩
              by_cases hjk : j = k
              · subst hjk
                rw [hkl] at hx
                cases hx
                exact e1
              · exact hno j (by omega) x hx
            case measure => simp [intOf]; omega
        · have hk' : k = 19 := by omega
          subst hk'
          have hc0 : kwords.contains s.data.toList = false := kw_none hno
          clear hno hcell hlt hk
          go_wp2_with (go_quiet (fail))
          go_loopw [5, 6, 7] (fun i _ _ wr => ∃ k : Nat, k ≤ s.size ∧ i = .int .i64 k ∧ (∀ j < k, ∀ b, s.data.toList[j]? = some b → okAt j b = true) ∧ ∃ m, wr = w1.drewN m) (fun i _ _ _ => s.size - (intOf i).toNat)
          case atStart => exact ⟨0, by omega, rfl, fun j hj => absurd hj (by omega), m, rfl⟩
          case round =>
            obtain ⟨k, hk, rfl, hno, m2, rfl⟩ := hrel
            by_cases hlt : k < s.size
            · have hi0 : (0 : Int) ≤ (k : Int) := by omega
              have hi1 : (k : Int) < (s.size : Int) := by omega
              obtain ⟨b, hb⟩ : ∃ b, s.data.toList[k]? = some b := ⟨s.data.toList[k]'(by rw [← Lib.size_eq]; omega), List.getElem?_eq_getElem _⟩
              go_upto_region 13 with (go_quiet (fail))
              have hbk : s[k] = b := by
                have e : s.data.toList[k]? = some s[k] := by
                  rw [Array.getElem?_toList]
                  exact Array.getElem?_eq_getElem _
                rw [hb] at e
                exact (Option.some.inj e).symm
              rw [hbk]
              obtain ⟨n, hn⟩ := named b.toNat
              rw [← hn.out]
              have hn256 : n < 256 := by rw [hn.out]; exact b.toNat_lt
              rcases cls n with hq | hq | hq | hq | hq | hq | hq | hq | hq
              · have f1 : ¬ (97 : Int) ≤ (n : Int) := by omega
                have f1n : ¬ 97 ≤ n := by omega
                have f2 : (n : Int) ≤ 122 := by omega
                have f2n : n ≤ 122 := by omega
                have f3 : ¬ (65 : Int) ≤ (n : Int) := by omega
                have f3n : ¬ 65 ≤ n := by omega
                have f4 : (n : Int) ≤ 90 := by omega
                have f4n : n ≤ 90 := by omega
                have f5 : ((n : Int) == 95) = false := by rw [beq_eq_false_iff_ne]; omega
                have f5n : ¬ n = 95 := by omega
                have f6 : (n : Int) < 48 := by omega
                have f6n : n < 48 := by omega
                have f7 : ¬ (57 : Int) < (n : Int) := by omega
                have f7n : ¬ 57 < n := by omega
                by_cases hk0 : k = 0
                · subst hk0
                  go_wp2_with (go_quiet (fail))
                  go_ret
                  refine ⟨?_, below_drewN hbel _⟩
                  rw [name_no hb (no_oth (by rw [← hn.out]; omega))]
                  rfl
                · have hk0i : ((k : Int) == 0) = false := by rw [beq_eq_false_iff_ne]; omega
                  go_wp2_with (go_quiet (fail))
                  go_ret
                  refine ⟨?_, below_drewN hbel _⟩
                  rw [name_no hb (no_oth (by rw [← hn.out]; omega))]
                  rfl
              · have f1 : ¬ (97 : Int) ≤ (n : Int) := by omega
                have f1n : ¬ 97 ≤ n := by omega
                have f2 : (n : Int) ≤ 122 := by omega
                have f2n : n ≤ 122 := by omega
                have f3 : ¬ (65 : Int) ≤ (n : Int) := by omega
                have f3n : ¬ 65 ≤ n := by omega
                have f4 : (n : Int) ≤ 90 := by omega
                have f4n : n ≤ 90 := by omega
                have f5 : ((n : Int) == 95) = false := by rw [beq_eq_false_iff_ne]; omega
                have f5n : ¬ n = 95 := by omega
                have f6 : ¬ (n : Int) < 48 := by omega
                have f6n : ¬ n < 48 := by omega
                have f7 : ¬ (57 : Int) < (n : Int) := by omega
                have f7n : ¬ 57 < n := by omega
                by_cases hk0 : k = 0
                · subst hk0
                  go_wp2_with (go_quiet (fail))
                  go_ret
                  refine ⟨?_, below_drewN hbel _⟩
                  rw [name_no hb (no_dig (by rw [← hn.out]; omega))]
                  rfl
                · have hk0i : ((k : Int) == 0) = false := by rw [beq_eq_false_iff_ne]; omega
                  have hok : okAt k b = true := ok_dig hk0 (by rw [← hn.out]; omega)
                  go_wp2_with (go_quiet (fail))
                  go_roundw
                  case rel => exact ⟨k + 1, by omega, by go_num, ok_next hno hb hok, _, rfl⟩
                  case measure => simp [intOf]; omega
              · have f1 : ¬ (97 : Int) ≤ (n : Int) := by omega
                have f1n : ¬ 97 ≤ n := by omega
                have f2 : (n : Int) ≤ 122 := by omega
                have f2n : n ≤ 122 := by omega
                have f3 : ¬ (65 : Int) ≤ (n : Int) := by omega
                have f3n : ¬ 65 ≤ n := by omega
                have f4 : (n : Int) ≤ 90 := by omega
                have f4n : n ≤ 90 := by omega
                have f5 : ((n : Int) == 95) = false := by rw [beq_eq_false_iff_ne]; omega
                have f5n : ¬ n = 95 := by omega
                have f6 : ¬ (n : Int) < 48 := by omega
                have f6n : ¬ n < 48 := by omega
                have f7 : (57 : Int) < (n : Int) := by omega
                have f7n : 57 < n := by omega
                by_cases hk0 : k = 0
                · subst hk0
                  go_wp2_with (go_quiet (fail))
                  go_ret
                  refine ⟨?_, below_drewN hbel _⟩
                  rw [name_no hb (no_oth (by rw [← hn.out]; omega))]
                  rfl
                · have hk0i : ((k : Int) == 0) = false := by rw [beq_eq_false_iff_ne]; omega
                  go_wp2_with (go_quiet (fail))
                  go_ret
                  refine ⟨?_, below_drewN hbel _⟩
                  rw [name_no hb (no_oth (by rw [← hn.out]; omega))]
                  rfl
              · have f1 : ¬ (97 : Int) ≤ (n : Int) := by omega
                have f1n : ¬ 97 ≤ n := by omega
                have f2 : (n : Int) ≤ 122 := by omega
                have f2n : n ≤ 122 := by omega
                have f3 : (65 : Int) ≤ (n : Int) := by omega
                have f3n : 65 ≤ n := by omega
                have f4 : (n : Int) ≤ 90 := by omega
                have f4n : n ≤ 90 := by omega
                have f5 : ((n : Int) == 95) = false := by rw [beq_eq_false_iff_ne]; omega
                have f5n : ¬ n = 95 := by omega
                have f6 : ¬ (n : Int) < 48 := by omega
                have f6n : ¬ n < 48 := by omega
                have f7 : (57 : Int) < (n : Int) := by omega
                have f7n : 57 < n := by omega
                have hok : okAt k b = true := ok_let (by rw [← hn.out]; omega)
                go_wp2_with (go_quiet (fail))
                go_roundw
                case rel => exact ⟨k + 1, by omega, by go_num, ok_next hno hb hok, _, rfl⟩
                case measure => simp [intOf]; omega
              · have f1 : ¬ (97 : Int) ≤ (n : Int) := by omega
                have f1n : ¬ 97 ≤ n := by omega
                have f2 : (n : Int) ≤ 122 := by omega
                have f2n : n ≤ 122 := by omega
                have f3 : (65 : Int) ≤ (n : Int) := by omega
                have f3n : 65 ≤ n := by omega
                have f4 : ¬ (n : Int) ≤ 90 := by omega
                have f4n : ¬ n ≤ 90 := by omega
                have f5 : ((n : Int) == 95) = false := by rw [beq_eq_false_iff_ne]; omega
                have f5n : ¬ n = 95 := by omega
                have f6 : ¬ (n : Int) < 48 := by omega
                have f6n : ¬ n < 48 := by omega
                have f7 : (57 : Int) < (n : Int) := by omega
                have f7n : 57 < n := by omega
                by_cases hk0 : k = 0
                · subst hk0
                  go_wp2_with (go_quiet (fail))
                  go_ret
                  refine ⟨?_, below_drewN hbel _⟩
                  rw [name_no hb (no_oth (by rw [← hn.out]; omega))]
                  rfl
                · have hk0i : ((k : Int) == 0) = false := by rw [beq_eq_false_iff_ne]; omega
                  go_wp2_with (go_quiet (fail))
                  go_ret
                  refine ⟨?_, below_drewN hbel _⟩
                  rw [name_no hb (no_oth (by rw [← hn.out]; omega))]
                  rfl
              · have f1 : ¬ (97 : Int) ≤ (n : Int) := by omega
                have f1n : ¬ 97 ≤ n := by omega
                have f2 : (n : Int) ≤ 122 := by omega
                have f2n : n ≤ 122 := by omega
                have f3 : (65 : Int) ≤ (n : Int) := by omega
                have f3n : 65 ≤ n := by omega
                have f4 : ¬ (n : Int) ≤ 90 := by omega
                have f4n : ¬ n ≤ 90 := by omega
                have f5 : ((n : Int) == 95) = true := by rw [beq_iff_eq]; omega
                have f5n : n = 95 := by omega
                have f6 : ¬ (n : Int) < 48 := by omega
                have f6n : ¬ n < 48 := by omega
                have f7 : (57 : Int) < (n : Int) := by omega
                have f7n : 57 < n := by omega
                have hok : okAt k b = true := ok_let (by rw [← hn.out]; omega)
                go_wp2_with (go_quiet (fail))
                go_roundw
                case rel => exact ⟨k + 1, by omega, by go_num, ok_next hno hb hok, _, rfl⟩
                case measure => simp [intOf]; omega
              · have f1 : ¬ (97 : Int) ≤ (n : Int) := by omega
                have f1n : ¬ 97 ≤ n := by omega
                have f2 : (n : Int) ≤ 122 := by omega
                have f2n : n ≤ 122 := by omega
                have f3 : (65 : Int) ≤ (n : Int) := by omega
                have f3n : 65 ≤ n := by omega
                have f4 : ¬ (n : Int) ≤ 90 := by omega
                have f4n : ¬ n ≤ 90 := by omega
                have f5 : ((n : Int) == 95) = false := by rw [beq_eq_false_iff_ne]; omega
                have f5n : ¬ n = 95 := by omega
                have f6 : ¬ (n : Int) < 48 := by omega
                have f6n : ¬ n < 48 := by omega
                have f7 : (57 : Int) < (n : Int) := by omega
                have f7n : 57 < n := by omega
                by_cases hk0 : k = 0
                · subst hk0
                  go_wp2_with (go_quiet (fail))
                  go_ret
                  refine ⟨?_, below_drewN hbel _⟩
                  rw [name_no hb (no_oth (by rw [← hn.out]; omega))]
                  rfl
                · have hk0i : ((k : Int) == 0) = false := by rw [beq_eq_false_iff_ne]; omega
                  go_wp2_with (go_quiet (fail))
                  go_ret
                  refine ⟨?_, below_drewN hbel _⟩
                  rw [name_no hb (no_oth (by rw [← hn.out]; omega))]
                  rfl
              · have f1 : (97 : Int) ≤ (n : Int) := by omega
                have f1n : 97 ≤ n := by omega
                have f2 : (n : Int) ≤ 122 := by omega
                have f2n : n ≤ 122 := by omega
                have f3 : (65 : Int) ≤ (n : Int) := by omega
                have f3n : 65 ≤ n := by omega
                have f4 : ¬ (n : Int) ≤ 90 := by omega
                have f4n : ¬ n ≤ 90 := by omega
                have f5 : ((n : Int) == 95) = false := by rw [beq_eq_false_iff_ne]; omega
                have f5n : ¬ n = 95 := by omega
                have f6 : ¬ (n : Int) < 48 := by omega
                have f6n : ¬ n < 48 := by omega
                have f7 : (57 : Int) < (n : Int) := by omega
                have f7n : 57 < n := by omega
                have hok : okAt k b = true := ok_let (by rw [← hn.out]; omega)
                go_wp2_with (go_quiet (fail))
                go_roundw
                case rel => exact ⟨k + 1, by omega, by go_num, ok_next hno hb hok, _, rfl⟩
                case measure => simp [intOf]; omega
              · have f1 : (97 : Int) ≤ (n : Int) := by omega
                have f1n : 97 ≤ n := by omega
                have f2 : ¬ (n : Int) ≤ 122 := by omega
                have f2n : ¬ n ≤ 122 := by omega
                have f3 : (65 : Int) ≤ (n : Int) := by omega
                have f3n : 65 ≤ n := by omega
                have f4 : ¬ (n : Int) ≤ 90 := by omega
                have f4n : ¬ n ≤ 90 := by omega
                have f5 : ((n : Int) == 95) = false := by rw [beq_eq_false_iff_ne]; omega
                have f5n : ¬ n = 95 := by omega
                have f6 : ¬ (n : Int) < 48 := by omega
                have f6n : ¬ n < 48 := by omega
                have f7 : (57 : Int) < (n : Int) := by omega
                have f7n : 57 < n := by omega
                by_cases hk0 : k = 0
                · subst hk0
                  go_wp2_with (go_quiet (fail))
                  go_ret
                  refine ⟨?_, below_drewN hbel _⟩
                  rw [name_no hb (no_oth (by rw [← hn.out]; omega))]
                  rfl
                · have hk0i : ((k : Int) == 0) = false := by rw [beq_eq_false_iff_ne]; omega
                  go_wp2_with (go_quiet (fail))
                  go_ret
                  refine ⟨?_, below_drewN hbel _⟩
                  rw [name_no hb (no_oth (by rw [← hn.out]; omega))]
                  rfl
            · have hk2 : k = s.size := by omega
              subst hk2
              go_wp2_with (go_quiet (fail))
              go_ret
              refine ⟨?_, below_drewN hbel _⟩
              rw [name_yes he (by omega) hc0 hno]
              rfl
end Go.Proofs.YtmnfmgoolimlmaaDoor
