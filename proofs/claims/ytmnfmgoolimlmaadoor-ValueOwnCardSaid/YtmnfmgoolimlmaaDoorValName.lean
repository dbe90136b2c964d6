/- value.Name. -/
import Derived.Test.YtmnfmgoolimlmaaDoorValFind
import Derived.Test.YtmnfmgoolimlmaaDoorKwText
import Derived.Test.YtmnfmgoolimlmaaDoorShelf
import Derived.Laws.IdiomStrings
namespace Go.Proofs.YtmnfmgoolimlmaaDoor
set_option linter.unusedSimpArgs false
set_option linter.unusedVariables false
open Go.RowKit
abbrev SpaceTab (w : World) : Prop := Lib.TabIs Tryd.prog w "strings.asciiSpace" .u8 Lib.asciiSpaceTab
theorem name_empty : nameL [] = false := rfl
theorem name_dig {l : List UInt8} (h : digB (l.headD 0) = true) : nameL l = false := by
  unfold nameL
  rw [h]
  simp
theorem name_any (l : List UInt8) (he : l.isEmpty = false) (hl : l.length ≤ 64) (hd : digB (l.headD 0) = false) (hk : kwords.contains l = false) : nameL l = !l.any badB := by
  unfold nameL
  rw [he, decide_eq_true hl, hd, hk]
  have : l.any badB = !l.all (fun b => letB b || digB b) := by
    rw [List.not_all_eq_any_not]
    congr 1
    funext b
    simp [badB]
  rw [this]
  simp
def kwS : List ByteArray := kwords.map fun l => ⟨l.toArray⟩
theorem kwS_has (x : ByteArray) : Lib.containsS (kwS.take 19) x = kwords.contains x.data.toList := by
  rw [show kwS.take 19 = kwS from rfl, Bool.eq_iff_iff, Lib.containsS_iff, List.contains_iff_mem]
  unfold kwS
  rw [List.mem_map]
  constructor
  · rintro ⟨l, hl, rfl⟩
    exact hl
  · intro h
    exact ⟨_, h, rfl⟩
theorem fields_kw (w : World) (htab : SpaceTab w) :
    Calls Tryd.prog 24 #[.string ⟨kwText.toArray⟩] w fun e w' => e = .returned (.slice (some ⟨w.heap.size, 0, none⟩) 19 19) ∧ w' = w.alloc (.cells kwV.toArray 9) := by
  have h := Tryd.strings_Fields ⟨kwText.toArray⟩ w (by decide +kernel) (fun j b hb => kwText_ascii b (List.mem_of_getElem? hb)) htab
  rw [show (⟨kwText.toArray⟩ : ByteArray).data.toList = kwText from rfl, kwText_fields] at h
  exact h
theorem kw_in (w : World) (x : ByteArray) :
    Calls Tryd.prog 26 #[.slice (some ⟨w.heap.size, 0, none⟩) 19 19, .string x] (w.alloc (.cells kwV.toArray 9)) fun e w' => e = .returned (.bool (kwords.contains x.data.toList)) ∧ w' = w.alloc (.cells kwV.toArray 9) := by
  have h := Tryd.slices_Contains_string w.heap.size 0 19 19 kwS x (w.alloc (.cells kwV.toArray 9)) (Nat.le_refl _) (by omega) (fun j hj => by
    obtain ⟨l, hl, hc⟩ := kw_cells w hj
    rw [Nat.zero_add, hc]
    simp [kwS, List.getD, List.getElem?_map, hl])
  rw [kwS_has] at h
  exact h
theorem bytes_cells (W : World) (s : ByteArray) (c : Nat) (m : Nat × Nat) (j : Nat) (x : UInt8) (h : s.data.toList[j]? = some x) : (W.alloc (.cells (bytesRow s c) 5 m)).cell? ⟨W.heap.size, j, none⟩ = some (.int .u8 (x.toNat : Int)) := by
  have hj : j < s.data.size := by
    have := (List.getElem?_eq_some_iff.1 h).1
    simpa using this
  have hx : s.data[j] = x := by
    rw [Array.getElem?_toList] at h
    exact (Array.getElem?_eq_some_iff.1 h).2
  have hj2 : j < s.size := hj
  simp only [World.cell?, World.alloc, Array.getElem?_push, if_true]
  simp [bytesRow, Array.getElem?_append, hj2]
  rw [hx]
theorem below_marked (W : World) (o : Obj) : Below W.heap.size W (W.alloc o) := (Below.refl _ W).alloc (Nat.le_refl _) o
set_option maxRecDepth 100000 in
set_option maxHeartbeats 400000 in
theorem name_w (s : ByteArray) (w : World) (hs : s.size ≤ 140737488351232) (htab : SpaceTab w) :
    Calls Tryd.prog 8 #[.string s] w fun e w' => e = .returned (.bool (nameL s.data.toList)) ∧ Below w.heap.size w w' := by
  have hw := fields_kw w htab
  have hbel := below_alloc w (.cells kwV.toArray 9)
  have hin := kw_in w s
  obtain ⟨W, HW⟩ := named (w.alloc (.cells kwV.toArray 9))
  have hsz : w.heap.size ≤ W.heap.size := by rw [HW.out]; exact hbel.size
  rw [← HW.out] at hbel hw hin
  clear HW
  obtain ⟨R, HR⟩ := named (nameL s.data.toList)
  rw [← HR.out]
  obtain ⟨q, hq⟩ := named (kwords.contains s.data.toList)
  rw [← hq.out] at hin
  go_enter Tryd.func8, Tryd.ntmps8
  go_wp2_with fail
  refine hw.mono ?_
  rintro e w1 ⟨rfl, rfl⟩
  clear hw
  cases he : s.toList.isEmpty with
  | true =>
    go_wp2_with (go_quiet (fail))
    go_ret
    refine ⟨?_, hbel⟩
    rw [HR.out, show nameL s.data.toList = false by rw [ByteArray.toList_eq] at he; simp [nameL, he]]
    rfl
  | false =>
    by_cases hl : (64 : Int) < (s.size : Int)
    · go_wp2_with (go_quiet (fail))
      go_ret
      refine ⟨?_, hbel⟩
      rw [HR.out, show nameL s.data.toList = false from by
        have : ¬ s.data.toList.length ≤ 64 := by rw [← Lib.size_eq]; omega
        exact nameL_long this]
      rfl
    · have he2 : s.data.toList.isEmpty = false := by rw [ByteArray.toList_eq] at he; exact he
      have hpos : 0 < s.size := by
        rw [Lib.size_eq]
        cases h : s.data.toList with
        | nil => rw [h] at he2; cases he2
        | cons a r => simp
      have hi1 : (0 : Int) < (s.size : Int) := by omega
      have hdig := digit_w (s[0]'hpos)
      have hhd : s.data.toList.headD 0 = s[0]'hpos := by
        have e : s.data.toList[0]? = some (s[0]'hpos) := by
          rw [Array.getElem?_toList]
          exact Array.getElem?_eq_getElem _
        cases h : s.data.toList with
        | nil => rw [h] at e; cases e
        | cons a r => rw [h] at e; simpa using e
      rw [← hhd] at hdig
      have hld : decide ((64 : Int) < (s.size : Int)) = false := decide_eq_false hl
      have hln : s.data.toList.length ≤ 64 := by rw [← Lib.size_eq]; omega
      cases hd : digB (s.data.toList.headD 0) with
      | true =>
        have hR : R = false := by rw [HR.out]; exact name_dig hd
        rw [hd] at hdig
        rw [hhd] at hdig
        clear hd hhd he2 hl HR hq hln hin
        go_wp2_with (go_quiet (fail))
        refine (hdig _).mono ?_
        rintro e w2 ⟨rfl, rfl⟩
        go_wp2_with (go_quiet (fail))
        go_ret
        refine ⟨?_, hbel⟩
        rw [hR]
        rfl
      | false =>
        have hR : q = false → R = !s.data.toList.any badB := fun hq0 => by
          rw [HR.out]
          exact name_any _ he2 hln hd (by rw [← hq.out]; exact hq0)
        have hR2 : q = true → R = false := fun hq1 => by
          rw [HR.out]
          unfold nameL
          rw [← hq.out, hq1]
          exact Bool.and_false _
        rw [hd] at hdig
        rw [hhd] at hdig
        clear hd hhd he2 HR hq hl
        go_wp2_with (go_quiet (fail))
        refine (hdig _).mono ?_
        rintro e w2 ⟨rfl, rfl⟩
        clear hdig
        go_wp2_with (go_quiet (fail))
        refine hin.mono ?_
        rintro e w3 ⟨rfl, rfl⟩
        clear hin
        cases q with
        | true =>
          go_wp2_with (go_quiet (fail))
          go_ret
          refine ⟨?_, hbel⟩
          rw [hR2 (by simp)]
          rfl
        | false =>
          have hR1 := hR (by simp)
          clear hR hR2
          have kc := run_bytes_of_string (P := Tryd.prog) w3 9 52 5 s Tryd.underlying9 Tryd.underlying52 Tryd.underlying5
          obtain ⟨c, hc⟩ := named (grownCap w3 s.size 0 5)
          rw [← hc.out] at kc
          have hb2 := below_marked w3.drew (.cells (bytesRow s c) 5 ((bytesRow s c).size, (bytesRow s c).size + 1))
          have hcells := fun j x h => bytes_cells w3.drew s c ((bytesRow s c).size, (bytesRow s c).size + 1) j x h
          obtain ⟨W4, HW4⟩ := named (w3.drew.alloc (.cells (bytesRow s c) 5 ((bytesRow s c).size, (bytesRow s c).size + 1)))
          rw [← HW4.out] at kc hb2
          have hhas := hasBytes_w s.data.toList W4 w3.heap.size c (by omega) (fun j x h => by rw [HW4.out]; exact hcells j x h)
          rw [← Lib.size_eq] at hhas
          obtain ⟨y, hy⟩ := named (s.data.toList.any badB)
          rw [← hy.out] at hhas hR1
          clear hcells HW4 hc hy
          have HR1 := hide hR1
          clear hR1
          go_wp2_with (go_quiet (fail))
          refine hhas.mono ?_
          rintro e w5 ⟨rfl, m, rfl⟩
          clear hhas kc
          go_wp2_with (go_quiet (fail))
          go_ret
          have hb3 : Below w.heap.size w W4 := hbel.trans ((show Below w3.heap.size w3 W4 from (below_drewN (Below.refl w3.heap.size w3) 1).trans hb2).mono hsz)
          refine ⟨?_, below_drewN hb3 m⟩
          rw [HR1.out]
          rfl
end Go.Proofs.YtmnfmgoolimlmaaDoor
