/- The last step of a sync. -/
import Derived.Test.YtcnhdmchoiiceaaSecPut
namespace Go.Proofs.Ytcnhdmchoiiceaa
open Go.RowKit
/-- The disk that a sync leaves: all writes done. -/
def settled (may : Nat → Bool) (d : Dk) : Dk := { d with secs := stl may 0 d.pend d.secs, pend := [] }
theorem own_lies {w : World} {base X : Nat} {sv pv : Value} {d : Dk} (h1 : At w base X sv pv d) (h2 : w.ownsRow base 43 2 pv d.pend.length (wrs d.pend)) :
    ∃ A c, pv = .slice A d.pend.length c ∧ Writes w A d.pend ∧ ∀ a, A = some a → sv.ownBlock ≠ some a.block ∧ a.block ≠ X := by
  obtain ⟨A, c, rfl, _, _, hp, _⟩ := Lies.of_own h2
  refine ⟨A, c, rfl, hp, fun a ha => ?_⟩
  subst ha
  have e1 := own_ne h1.own h2 (by decide)
  have e2 := own_blk_ne h2 h1.blk (by decide)
  simp only [Value.ownBlock, ne_eq, Option.some.injEq] at e1 e2 ⊢
  refine ⟨?_, e2⟩
  rcases e1 with e1 | e1
  · rw [e1]; simp
  · exact e1
theorem Drive.zero {w : World} {base X : Nat} {sv : Value} {d : Dk} (h : At w base X sv (.slice none 0 0) { d with pend := [] }) : Drive w base X { d with pend := [] } :=
  ⟨sv, _, h, World.ownsRow_nil _ _ _ _⟩
set_option maxHeartbeats 1000000 in
theorem done_w (base X : Nat) (d : Dk) (w : World) (hd : Drive w base X d) (hs : ∀ x ∈ d.pend, there d.secs x.sec = true) (hn : d.pend.length ≤ 140737488351232) :
    Calls Try.prog 36 #[.pointer (some ⟨X, 0, none⟩)] w fun e w' => e = .returned (.tuple #[]) ∧ Drive w' base X (settled (fun _ => true) d) ∧ Below base w w' := by
  obtain ⟨sv, pv, h1, h2⟩ := hd
  obtain ⟨A, c, rfl, hp, hA⟩ := own_lies h1 h2
  go_enter Try.func36, Try.ntmps36
  go_wp2_with (go_at_call 37; refine (settleAll_w (fun _ => true) base X sv A c d w h1 hp (fun _ => hA) hs hn (fun i w' _ _ => all_w _ _)).mono ?_; rintro e w2 ⟨rfl, hat, hb⟩)
  go_end0
  exact ⟨rfl, ⟨sv, _, hat, World.ownsRow_nil _ _ _ _⟩, hb⟩
end Go.Proofs.Ytcnhdmchoiiceaa
