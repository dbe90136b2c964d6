/- A disk at work: what lies in memory; settle. -/
import Derived.Test.YtpfbmmeipojodaaGB
namespace Go.Proofs.Ytpfbmmeipojodaa
open Go.RowKit
/-- Writes that may be done, done. -/
def stl (may : Nat → Bool) : Nat → List Wr → List ByteArray → List ByteArray
  | _, [], s => s
  | k, x :: l, s => stl may (k + 1) l (if may k then s.set x.sec.toNat x.data else s)
theorem stl_length (may : Nat → Bool) (k : Nat) (l : List Wr) (s : List ByteArray) : (stl may k l s).length = s.length := by
  induction l generalizing k s with
  | nil => rfl
  | cons x l ih => rw [stl, ih]; split <;> simp
/-- A drive's block: sectors of its own, writes that wait. -/
structure At (w : World) (base X : Nat) (sv : Value) (pv : Value) (d : Dk) : Prop where
  blk : Blk w X [sv, pv, .bool d.off, .int .i64 d.fuse] 70
  own : w.ownsRow base 9 1 sv d.secs.length (strs d.secs)
  low : base ≤ X
def CbOk (F : Nat) (caps : Array Value) (may : Nat → Bool) (n base : Nat) (w0 : World) : Prop :=
  ∀ (i : Nat) (w : World), i < n → Below base w0 w → Calls Try.prog F (#[.int .i64 i] ++ caps) w fun e w' => e = .returned (.bool (may i)) ∧ Below w.heap.size w w'
theorem there_nat {secs : List ByteArray} {n : Int} (h : there secs n = true) : ∃ j : Nat, n = (j : Int) ∧ j < secs.length := by
  simp [there] at h
  exact ⟨n.toNat, by omega, by omega⟩
set_option maxRecDepth 100000 in
set_option maxHeartbeats 1000000 in
theorem settleAll_w (may : Nat → Bool) (base X : Nat) (sv : Value) (A : Option Addr) (c : Nat) (d : Dk) (w : World)
    (hat : At w base X sv (.slice A d.pend.length c) d) (hp : Writes w A d.pend) (hA : d.pend ≠ [] → ∀ a, A = some a → sv.ownBlock ≠ some a.block ∧ a.block ≠ X)
    (hs : ∀ x ∈ d.pend, there d.secs x.sec = true) (hn : d.pend.length ≤ 140737488351232) (hcb : CbOk 86 #[] may d.pend.length base w) :
    Calls Try.prog 30 #[.pointer (some ⟨X, 0, none⟩), .func (.func 86) #[] #[]] w fun e w' => e = .returned (.tuple #[]) ∧
      At w' base X sv (.slice none 0 0) { d with secs := stl may 0 d.pend d.secs, pend := [] } ∧ Below base w w' := by
  have hc0 := hat.blk.cell
  have hf0 := hat.blk.free
  have hlow : base ≤ w.heap.size := Nat.le_trans hat.low (Nat.le_of_lt hat.blk.lt)
  go_enter Try.func30, Try.ntmps30
  go_wp2
  have hfin := stl_length may 0 d.pend d.secs
  go_loopw [12] (fun i wr => ∃ (k : Nat) (s : List ByteArray), k ≤ d.pend.length ∧ i = .int .i64 k ∧ s.length = d.secs.length ∧ Hid (stl may k (d.pend.drop k) s = stl may 0 d.pend d.secs) ∧
      Blk wr X [sv, .slice A d.pend.length c, .bool d.off, .int .i64 d.fuse] 70 ∧ wr.ownsRow base 9 1 sv d.secs.length (strs s) ∧ Writes wr A d.pend ∧ Below base w wr) (fun i _ => d.pend.length - (intOf i).toNat)
  case atStart => exact ⟨0, d.secs, by omega, rfl, rfl, rfl, hat.blk, hat.own, hp, Below.refl _ _⟩
  case round =>
    obtain ⟨k, s, hk, rfl, hsl, hst, hx, ho, hw, hb⟩ := hrel
    clear hc0 hf0
    by_cases hlt : k < d.pend.length
    · obtain ⟨b, o, rfl, hc1, hc2⟩ := hw.at_ hlt
      have hbl := hb.size
      obtain ⟨j, hj, hjl⟩ := there_nat (hs _ (List.getElem_mem hlt))
      rw [hj] at hc1
      obtain ⟨G, cap, rfl, hGb, hGl⟩ := ho.form (by omega)
      have hGX : G ≠ X := by
        rintro rfl
        exact own_blk_ne ho hx (by decide) rfl
      have hGb' : G ≠ b := fun e => (hA (fun h => by rw [h] at hlt; simp at hlt) _ rfl).1 (by rw [e]; rfl)
      have hba := hb.alloc (by omega) (.cells #[.int .i64 j, .string d.pend[k].data] 66)
      have hx1 := hx.alloc (.cells #[.int .i64 j, .string d.pend[k].data] 66)
      have ho1 := ho.alloc (.cells #[.int .i64 j, .string d.pend[k].data] 66)
      have hw1 := Lies.alloc hw (.cells #[.int .i64 j, .string d.pend[k].data] 66)
      have hn1 := Blk.new wr [.int .i64 j, .string d.pend[k].data] 66
      rw [drop_cons_l _ _ hlt, stl, hj] at hst
      go_wp2_with (go_at_call 86; refine (hcb k _ hlt hba).mono ?_; rintro e w2 ⟨rfl, hb2⟩)
      · rename_i hm
        rw [if_pos hm] at hst
        have hx2 := hx1.below hb2
        have ho2 := own_below ho1 hb2
        have hw2 := Lies.below hw1 hb2
        have hn2 := hn1.below hb2
        have hb3 := hba.trans (hb2.mono (Nat.le_trans hlow hba.size))
        clear hx hx1 ho ho1 hw hw1 hn1 hc1 hc2
        have f1 := hx2.cell 0
        have f2 := hn2.cell 0
        have f3 := hn2.cell 1
        have f4 := ho2.frozenAt j
        have hi0 : (0 : Int) ≤ j := by omega
        have hi1 : (j : Int) < d.secs.length := by omega
        have f5 : w2.cell? ⟨G, j, none⟩ = some (.string (s[j]'(by omega))) := by rw [ho2.cellAt j (by omega)]; simp [strs, show j < s.length by omega]
        go_region
        have ho3 := ho2.stored j (.string d.pend[k].data)
        have hx3 := hx2.far (p := ⟨G, j, none⟩) (Ne.symm hGX) (.string d.pend[k].data)
        have hw3 := hw2.far (p := ⟨G, j, none⟩) (fun a ha => by cases ha; exact Ne.symm hGb') (.string d.pend[k].data)
        have hb4 := hb3.setCell (p := ⟨G, j, none⟩) hGb (.string d.pend[k].data)
        go_wp2
        go_roundw
        case rel =>
          refine ⟨k + 1, s.set j d.pend[k].data, by omega, by go_num, by simpa using hsl, hst, hx3, ?_, hw3, hb4.drew⟩
          rw [strs_set]
          exact ho3.1
        case measure => simp [intOf]; omega
      · rename_i hm
        rw [if_neg (by simp [hm])] at hst
        go_roundw
        case rel => exact ⟨k + 1, s, by omega, by go_num, hsl, hst, hx1.below hb2, own_below ho1 hb2, Lies.below hw1 hb2, hba.trans (hb2.mono (Nat.le_trans hlow hba.size))⟩
        case measure => simp [intOf]; omega
    · have hk' : k = d.pend.length := by omega
      subst hk'
      have hx1 := hx.cell
      have hf1 := hx.free
      go_wp2
      go_end0
      have hs2 : s = stl may 0 d.pend d.secs := by
        have := hst.out
        rw [List.drop_length] at this
        exact this
      subst hs2
      refine ⟨rfl, ⟨hx.set 1 _, ?_, hat.low⟩, hb.setCell (p := ⟨X, 1, none⟩) hat.low _⟩
      have := own_far ho (p := ⟨X, 1, none⟩) (own_blk_ne ho hx (by decide)) (.slice none 0 0)
      simp only [hfin]
      exact this
end Go.Proofs.Ytpfbmmeipojodaa
