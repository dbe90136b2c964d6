/- CheckUid, the program's and the document's. -/
import Derived.Test.YtmnfmgoolimlmaaDoorValType
import Derived.Test.YtmnfmgoolimlmaaDoorRefType
import Derived.Test.YtmnfmgoolimlmaaDoorRefUtf
namespace Go.Proofs.YtmnfmgoolimlmaaDoor
set_option linter.unusedSimpArgs false
set_option linter.unusedVariables false
open Go.RowKit
/-- What is wrong with an entity's id. -/
def uidE (t i : ByteArray) : Int := if typeL t.data.toList = false then 5 else if Lib.validD i.data.toList = false then 6 else if 64 < i.size then 3 else 0
theorem valid_w (s : ByteArray) (w : World) (hs : s.size ≤ 140737488351232) (htab : Tb w) :
    Calls Tryd.prog 31 #[.string s] w fun e w' => e = .returned (.bool (Lib.validD s.data.toList)) ∧ Below w.heap.size w w' :=
  Any.utf8_ValidString Tryd.laysValid s w (by omega) htab.u8
set_option maxRecDepth 100000 in
set_option maxHeartbeats 400000 in
theorem uid_w (t i : ByteArray) (w : World) (ht : t.size ≤ 140737488351232) (hi : i.size ≤ 140737488351232) (htab : Tb w) :
    Calls Tryd.prog 11 #[.agg #[.string t, .string i]] w fun e w' => e = .returned (.int .i64 (uidE t i)) ∧ Below w.heap.size w w' := by
  have hbel := below_alloc w (.cells #[.string t, .string i] 23)
  have htb := htab.below hbel
  have hty := fun (W : World) (h : Tb W) => type_w t W ht h
  have hva := fun (W : World) (h : Tb W) => valid_w i W hi h
  have hR : uidE t i = if typeL t.data.toList = false then 5 else if Lib.validD i.data.toList = false then 6 else if 64 < i.size then 3 else 0 := rfl
  obtain ⟨R, HR⟩ := named (uidE t i)
  rw [← HR.out] at hR ⊢
  obtain ⟨T, HT⟩ := named (typeL t.data.toList)
  obtain ⟨V, HV⟩ := named (Lib.validD i.data.toList)
  rw [← HT.out, ← HV.out] at hR
  simp only [← HT.out] at hty
  simp only [← HV.out] at hva
  have HR2 := hide hR
  clear HT HV HR hR
  have hblk := Blk.new w [Value.string t, Value.string i] 23
  have hc0 : (w.alloc (.cells #[.string t, .string i] 23)).cell? ⟨w.heap.size, 0, none⟩ = some (.string t) := hblk.cell 0
  have hc1 : (w.alloc (.cells #[.string t, .string i] 23)).cell? ⟨w.heap.size, 1, none⟩ = some (.string i) := hblk.cell 1
  clear hblk
  obtain ⟨W, HW⟩ := named (w.alloc (.cells #[.string t, .string i] 23))
  go_enter Tryd.func11, Tryd.ntmps11
  go_upto_region 1 with (go_quiet (fail))
  rw [← HW.out] at hbel hc0 hc1 htb ⊢
  clear HW
  go_wp2_with (go_quiet (fail))
  refine (hty _ htb).mono ?_
  rintro e w1 ⟨rfl, hb1⟩
  have hd1 := cell_below hc1 hb1
  have hbw := hbel.trans (hb1.mono hbel.size)
  have htb2 := htb.below hb1
  clear hty hc0 hc1 htb htab
  cases T with
  | false =>
    go_wp2_with (go_quiet (fail))
    go_ret
    refine ⟨?_, hbw⟩
    have h := HR2.out
    simp at h
    rw [h]
    rfl
  | true =>
    go_wp2_with (go_quiet (fail))
    refine (hva _ htb2).mono ?_
    rintro e w2 ⟨rfl, hb2⟩
    have he1 := cell_below hd1 hb2
    have hbw2 := hbw.trans (hb2.mono hbw.size)
    clear hva hd1 htb2
    cases V with
    | false =>
      go_wp2_with (go_quiet (fail))
      go_ret
      refine ⟨?_, hbw2⟩
      have h := HR2.out
      simp at h
      rw [h]
      rfl
    | true =>
      by_cases hl : (64 : Int) < (i.size : Int)
      · go_wp2_with (go_quiet (fail))
        go_ret
        refine ⟨?_, hbw2⟩
        have h := HR2.out
        rw [if_neg (by simp), if_neg (by simp), if_pos (by omega)] at h
        rw [h]
        rfl
      · go_wp2_with (go_quiet (fail))
        go_ret
        refine ⟨?_, hbw2⟩
        have h := HR2.out
        rw [if_neg (by simp), if_neg (by simp), if_neg (by omega)] at h
        rw [h]
        rfl
set_option maxRecDepth 100000 in
set_option maxHeartbeats 400000 in
theorem refUid_w (t i : ByteArray) (w : World) (ht : t.size ≤ 140737488351232) (hi : i.size ≤ 140737488351232) :
    Calls Tryd.prog 12 #[.agg #[.string t, .string i]] w fun e w' => e = .returned (.int .i64 (uidE t i)) ∧ Below w.heap.size w w' := by
  have hbel := below_alloc w (.cells #[.string t, .string i] 23)
  have hty := fun (W : World) => refType_w t W ht
  have hva := fun (W : World) => refUtf_w i W hi
  have hR : uidE t i = if typeL t.data.toList = false then 5 else if Lib.validD i.data.toList = false then 6 else if 64 < i.size then 3 else 0 := rfl
  obtain ⟨R, HR⟩ := named (uidE t i)
  rw [← HR.out] at hR ⊢
  obtain ⟨T, HT⟩ := named (typeL t.data.toList)
  obtain ⟨V, HV⟩ := named (Lib.validD i.data.toList)
  rw [← HT.out, ← HV.out] at hR
  simp only [← HT.out] at hty
  simp only [← HV.out] at hva
  have HR2 := hide hR
  clear HT HV HR hR
  have hblk := Blk.new w [Value.string t, Value.string i] 23
  have hc0 : (w.alloc (.cells #[.string t, .string i] 23)).cell? ⟨w.heap.size, 0, none⟩ = some (.string t) := hblk.cell 0
  have hc1 : (w.alloc (.cells #[.string t, .string i] 23)).cell? ⟨w.heap.size, 1, none⟩ = some (.string i) := hblk.cell 1
  clear hblk
  obtain ⟨W, HW⟩ := named (w.alloc (.cells #[.string t, .string i] 23))
  go_enter Tryd.func12, Tryd.ntmps12
  go_upto_region 1 with (go_quiet (fail))
  rw [← HW.out] at hbel hc0 hc1 ⊢
  clear HW
  go_wp2_with (go_quiet (fail))
  refine (hty _).mono ?_
  rintro e w1 ⟨rfl, hb1⟩
  have hd1 := cell_below hc1 hb1
  have hbw := hbel.trans (hb1.mono hbel.size)
  clear hty hc0 hc1
  cases T with
  | false =>
    go_wp2_with (go_quiet (fail))
    go_ret
    refine ⟨?_, hbw⟩
    have h := HR2.out
    simp at h
    rw [h]
    rfl
  | true =>
    go_wp2_with (go_quiet (fail))
    refine (hva _).mono ?_
    rintro e w2 ⟨rfl, hb2⟩
    have he1 := cell_below hd1 hb2
    have hbw2 := hbw.trans (hb2.mono hbw.size)
    clear hva hd1
    cases V with
    | false =>
      go_wp2_with (go_quiet (fail))
      go_ret
      refine ⟨?_, hbw2⟩
      have h := HR2.out
      simp at h
      rw [h]
      rfl
    | true =>
      by_cases hl : (64 : Int) < (i.size : Int)
      · go_wp2_with (go_quiet (fail))
        go_ret
        refine ⟨?_, hbw2⟩
        have h := HR2.out
        rw [if_neg (by simp), if_neg (by simp), if_pos (by omega)] at h
        rw [h]
        rfl
      · go_wp2_with (go_quiet (fail))
        go_ret
        refine ⟨?_, hbw2⟩
        have h := HR2.out
        rw [if_neg (by simp), if_neg (by simp), if_neg (by omega)] at h
        rw [h]
        rfl
end Go.Proofs.YtmnfmgoolimlmaaDoor
