/- The callback of sector.Crash. -/
import Derived.Test.YtcnhdmchoiiceaaSecPlain
namespace Go.Proofs.Ytcnhdmchoiiceaa
open Go.RowKit
def bools (l : List Bool) : List Value := l.map Value.bool
/-- A slice of Booleans. -/
def Bools (w : World) (A : Option Addr) (l : List Bool) : Prop := Lies w A l.length 1 (bools l)
theorem Bools.at_ {w : World} {A : Option Addr} {l : List Bool} (h : Bools w A l) {k : Nat} (hk : k < l.length) : ∃ b o, A = some ⟨b, o, none⟩ ∧ w.cell? ⟨b, o + k, none⟩ = some (.bool l[k]) := by
  obtain ⟨b, o, e, hc⟩ := h.2 (by intro h0; have h1 := congrArg List.length h0; simp [bools] at h1; rw [h1] at hk; simp at hk)
  exact ⟨b, o, e, hc k _ (by simp [bools, hk])⟩
def mayOf (l : List Bool) (i : Nat) : Bool := l.getD i false
set_option maxHeartbeats 400000 in
theorem keep_w (K : Nat) (A : Option Addr) (c : Nat) (l : List Bool) (i : Nat) (w : World) (hK : w.cell? ⟨K, 0, none⟩ = some (.slice A l.length c)) (hl : Bools w A l) :
    Calls Try.prog 48 #[.int .i64 i, .pointer (some ⟨K, 0, none⟩)] w fun e w' => e = .returned (.bool (mayOf l i)) ∧ Below w.heap.size w w' := by
  by_cases h : i < l.length
  · obtain ⟨b, o, rfl, hc⟩ := hl.at_ h
    have e : mayOf l i = l[i] := by simp [mayOf, List.getD, h]
    rw [e]
    go_enter Try.func48, Try.ntmps48
    go_wp2
    go_ret
    exact ⟨rfl, Below.refl _ _⟩
  · have e : mayOf l i = false := by simp [mayOf, List.getD, List.getElem?_eq_none (Nat.le_of_not_lt h)]
    rw [e]
    go_enter Try.func48, Try.ntmps48
    go_wp2
    go_ret
    exact ⟨rfl, Below.refl _ _⟩
end Go.Proofs.Ytcnhdmchoiiceaa
