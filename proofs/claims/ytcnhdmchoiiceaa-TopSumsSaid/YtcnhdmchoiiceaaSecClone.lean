/- The walks of slices.Clone at texts and at writes. -/
import Derived.Test.YtcnhdmchoiiceaaSecCheck
import Derived.Test.YtcnhdmchoiiceaaApp
namespace Go.Proofs.Ytcnhdmchoiiceaa
open Go.RowKit
theorem own_empty (w : World) (t : TypeId) (size : Nat) : (w.alloc (.cells #[] t)).ownsRow w.heap.size t size (.slice (some ⟨w.heap.size, 0, none⟩) 0 0) 0 [] :=
  ⟨by simp, .inr ⟨w.heap.size, 0, #[], rfl, Nat.le_refl _, heap_alloc_new w _, Nat.le_refl _, by decide, by simp, by simp⟩⟩
/-- A call's answer: a slice of its own. -/
def OwnRet (E size n : Nat) (xs : List Value) (w : World) (e : Ending) (w' : World) : Prop := ∃ v, e = .returned v ∧ w'.ownsRow w.heap.size E size v n xs ∧ Below w.heap.size w w'
theorem cloneS_w (A : Option Addr) (c : Nat) (l : List ByteArray) (w : World) (hl : Texts w A l) (hn : l.length * 16 ≤ 140737488351232) :
    Calls Try.prog 47 #[.slice A l.length c] w (OwnRet 9 1 l.length (strs l) w) := by
  rcases A with _ | ad
  · obtain ⟨h0, hx⟩ := nil_of_none hl (by decide)
    rw [hx, h0]
    refine (Try.slices_Clone_string_nil 0 c w).mono ?_
    rintro e w' ⟨rfl, rfl⟩
    exact ⟨_, rfl, World.ownsRow_nil _ _ _ _, Below.refl _ _⟩
  · rcases Classical.em (strs l = []) with hx | hx
    · have h0 : l.length = 0 := by rw [← strs_length, hx]; rfl
      rw [hx, h0]
      refine (Try.slices_Clone_string_zero ad c w).mono ?_
      rintro e w' ⟨v, rfl, ho, _, hb⟩
      exact ⟨_, rfl, ho, hb⟩
    · obtain ⟨b, o, e, hc⟩ := hl.2 hx
      cases e
      refine (Try.slices_Clone_string b o l.length c l w (Nat.le_refl _) (by omega) (fun j hj => ?_)).mono ?_
      · have := hc j (.string l[j]) (by simp [strs, hj])
        rw [this, List.getD_eq_getElem?_getD, List.getElem?_eq_getElem hj]
        rfl
      · rintro e w' ⟨v, rfl, ho, _, hb⟩
        rw [List.take_length] at ho
        exact ⟨_, rfl, ho, hb⟩
theorem Try.info43 : (Try.prog.info? 43).map (fun i => (i.zero, i.size, i.bytes)) = some (some (.agg #[.int .i64 0, .string ⟨#[]⟩]), 2, 24) := by kernel_rfl
set_option maxRecDepth 100000 in
set_option maxHeartbeats 400000 in
theorem cloneW_w (A : Option Addr) (c : Nat) (l : List Wr) (w : World) (hl : Writes w A l) (hn : l.length * 24 ≤ 140737488351232) :
    Calls Try.prog 53 #[.slice A l.length c] w (OwnRet 43 2 l.length (wrs l) w) := by
  obtain ⟨i0, hi, hz0, hz1, hz2⟩ := info_parts Try.info43
  rcases A with _ | ad
  · obtain ⟨h0, hx⟩ := nil_of_none hl (by decide)
    rw [hx, h0]
    have hq := fun (w : World) (a : Option Addr) (n c : Nat) => Lib.run_eql_slice_nil (P := Try.prog) w 23 43 a n c 0 0 Try.underlying23
    go_enter Try.func53, Try.ntmps53
    go_wp2
    go_ret
    exact ⟨_, rfl, World.ownsRow_nil _ _ _ _, Below.refl _ _⟩
  · have hq := fun (w : World) (a : Option Addr) (n c : Nat) => Lib.run_eql_slice_nil (P := Try.prog) w 23 43 a n c 0 0 Try.underlying23
    go_enter Try.func53, Try.ntmps53
    have hown0 : (w.alloc (.cells #[] 43)).ownsRow w.heap.size 43 2 (.slice (some ⟨w.heap.size, 0, none⟩) 0 0) 0 [] := own_empty w _ _
    go_wp2_with (first
      | (at_builtin
         refine wpList_append_any _ rfl (.tmp 5) (.tmp 6) _ rfl w.heap.size 43 i0 _ 2 24 Try.underlying23 hi hz0 hz1 hz2 rfl (by omega) (.slice (some ⟨w.heap.size, 0, none⟩) 0 0) 0 [] rfl
           hown0 (some ad) l.length c (wrs l) rfl (Lies.alloc hl _) (wrs_one l) (by simp only [maxLen]; omega) (by omega) (by simp) ?_
         intro v1 w1 hown1 hg1 hat1
         have hbw1 : Below w.heap.size w w1 := ((Below.refl _ _).alloc (Nat.le_refl _) _).grown hg1 (by simp) (by simp [Value.ownBlock])))
    go_ret
    exact ⟨v1, rfl, by simpa using hown1, hbw1⟩
end Go.Proofs.Ytcnhdmchoiiceaa
