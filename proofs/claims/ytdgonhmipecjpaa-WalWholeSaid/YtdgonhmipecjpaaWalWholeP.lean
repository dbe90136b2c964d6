/- What appending a frame at a log's end and a crash come to, in plain Lean. -/
import Derived.Test.YtdgonhmipecjpaaGJ
namespace Go.Proofs.Ytdgonhmipecjpaa
open Go.RowKit
theorem log_fuse {S : List ByteArray} {o : Bool} {g1 g2 : Int} {f s ep : Nat} {l : List Fr} {b : Nat} (h : logOf ⟨S, [], o, g1⟩ f s ep = (l, b)) : logOf ⟨S, [], o, g2⟩ f s ep = (l, b) := by
  obtain ⟨h1, h2, h3⟩ := log_of h
  exact log_is (h1.same fun _ _ _ => rfl) h2 (fun hl x n hx => h3 hl x n (hx.same fun _ _ _ => rfl))
theorem whole_cases {S : List ByteArray} {f s ep b : Nat} {l : List Fr} {fu : Int} (keep : List Bool) (kind : UInt8) (p : ByteArray) (hr : right ⟨S, [], false, -1⟩ = true) (hs1 : 1 ≤ s) (hfs : f + s ≤ S.length) (hep : ep < 18446744073709551616) (hlog : logOf ⟨S, [], false, -1⟩ f s ep = (l, b)) (hl : l.length < 1024)
    (hg : b < s → ¬ (HeadOk (holdsOf ⟨S, [], false, -1⟩ ((f + b : Nat) : Int)).data.toList ∧ atL (holdsOf ⟨S, [], false, -1⟩ ((f + b : Nat) : Int)).data.toList 2 8 = ep ∧ atL (holdsOf ⟨S, [], false, -1⟩ ((f + b : Nat) : Int)).data.toList 10 8 = l.length)) :
    b ≤ s ∧ right ⟨S, [], false, fu⟩ = true ∧
    (((appE ⟨S, [], false, fu⟩ f s b ⟨kind, ep, l.length, p.data.toList⟩ = 1 ∨ appE ⟨S, [], false, fu⟩ f s b ⟨kind, ep, l.length, p.data.toList⟩ = 3 ∨ appE ⟨S, [], false, fu⟩ f s b ⟨kind, ep, l.length, p.data.toList⟩ = 16) ∧
        appD ⟨S, [], false, fu⟩ f s b ⟨kind, ep, l.length, p.data.toList⟩ = ⟨S, [], false, fu⟩ ∧ appN ⟨S, [], false, fu⟩ f s b ⟨kind, ep, l.length, p.data.toList⟩ = 0) ∨
      ((appE ⟨S, [], false, fu⟩ f s b ⟨kind, ep, l.length, p.data.toList⟩ = 0 ∨ appE ⟨S, [], false, fu⟩ f s b ⟨kind, ep, l.length, p.data.toList⟩ = 15) ∧ checkE (appD ⟨S, [], false, fu⟩ f s b ⟨kind, ep, l.length, p.data.toList⟩) = 0 ∧
        right (crashD (appD ⟨S, [], false, fu⟩ f s b ⟨kind, ep, l.length, p.data.toList⟩) keep) = true ∧ (crashD (appD ⟨S, [], false, fu⟩ f s b ⟨kind, ep, l.length, p.data.toList⟩) keep).off = false ∧
        (crashD (appD ⟨S, [], false, fu⟩ f s b ⟨kind, ep, l.length, p.data.toList⟩) keep).secs.length = S.length ∧
        ((appE ⟨S, [], false, fu⟩ f s b ⟨kind, ep, l.length, p.data.toList⟩ = 15 ∧ logOf (crashD (appD ⟨S, [], false, fu⟩ f s b ⟨kind, ep, l.length, p.data.toList⟩) keep) f s ep = (l, b)) ∨
          (∃ q : Nat, logOf (crashD (appD ⟨S, [], false, fu⟩ f s b ⟨kind, ep, l.length, p.data.toList⟩) keep) f s ep = (l ++ [⟨kind, ep, l.length, p.data.toList⟩], q) ∧ (appE ⟨S, [], false, fu⟩ f s b ⟨kind, ep, l.length, p.data.toList⟩ = 0 → appN ⟨S, [], false, fu⟩ f s b ⟨kind, ep, l.length, p.data.toList⟩ = (q : Int))) ∨
          ∃ (y : Fr) (n2 i0 : Nat) (rest : List Fr) (q : Nat), logOf (crashD (appD ⟨S, [], false, fu⟩ f s b ⟨kind, ep, l.length, p.data.toList⟩) keep) f s ep = (l ++ ⟨kind, ep, l.length, p.data.toList⟩ :: y :: rest, q) ∧ FrameAt ⟨S, [], false, fu⟩ f s i0 y n2 ∧ b ≤ i0 ∧ y.epoch = ep ∧ l.length < y.seq))) := by
  have hr2 : right ⟨S, [], false, fu⟩ = true := by rw [← hr]; rfl
  have hbs : b ≤ s := (log_of hlog).1.room (Nat.zero_le _)
  have hw : walE ⟨S, [], false, fu⟩ f s = 0 := by
    have : regOk ⟨S, [], false, fu⟩ f s = true := by simp [regOk]; omega
    simp [walE, hr2, this]
  refine ⟨hbs, hr2, ?_⟩
  by_cases hk : kind = 0
  · have hc : frCheck ⟨kind, ep, l.length, p.data.toList⟩ = 1 := by simp [frCheck, hk]
    have h1 := app_no (a := b) hw ((appW_frame hw (by rw [hc]; decide)).trans hc) (by decide)
    exact .inl ⟨.inl h1.2.2, h1.1, h1.2.1⟩
  by_cases hp : 16384 < p.data.toList.length
  · have hc : frCheck ⟨kind, ep, l.length, p.data.toList⟩ = 3 := by rw [frCheck, if_neg hk, if_pos hp]
    have h1 := app_no (a := b) hw ((appW_frame hw (by rw [hc]; decide)).trans hc) (by decide)
    exact .inl ⟨.inr (.inl h1.2.2), h1.1, h1.2.1⟩
  have hc : frCheck ⟨kind, ep, l.length, p.data.toList⟩ = 0 := by rw [frCheck, if_neg hk, if_neg hp]
  have ok : FrOk ⟨kind, ep, l.length, p.data.toList⟩ := ⟨hk, by show p.data.toList.length ≤ 16384; omega, hep, by show l.length < _; omega⟩
  rcases Nat.lt_or_ge s (b + (piecesN p.data.toList.length + 1)) with hroom | hroom
  · have h1 := app_no (a := b) (fr := ⟨kind, ep, l.length, p.data.toList⟩) hw (appW_full hw hc ⟨by omega, by omega⟩ (by show (s : Int) - b < ((piecesN p.data.toList.length + 1 : Nat) : Int); omega)) (by decide)
    exact .inl ⟨.inr (.inr h1.2.2), h1.1, h1.2.1⟩
  have hW : appW ⟨S, [], false, fu⟩ f s b ⟨kind, ep, l.length, p.data.toList⟩ = 0 := appW_fine hw hc ⟨by omega, by omega⟩ (by show ((piecesN p.data.toList.length + 1 : Nat) : Int) ≤ (s : Int) - b; omega)
  obtain ⟨h1, h2⟩ := app_yes hw hW
  rw [show ((f : Int) + (b : Int)).toNat = f + b by omega] at h1 h2
  have hN : layE ⟨S, [], false, fu⟩ (f + b) ((sectorsL ⟨kind, ep, l.length, p.data.toList⟩).map str) = 0 → appN ⟨S, [], false, fu⟩ f s b ⟨kind, ep, l.length, p.data.toList⟩ = ((b + (piecesN p.data.toList.length + 1) : Nat) : Int) := fun e => by
    rw [appN, h2, if_pos e]
    show (b : Int) + ((piecesN p.data.toList.length + 1 : Nat) : Int) = _
    omega
  have hll : ((sectorsL ⟨kind, ep, l.length, p.data.toList⟩).map str).length = piecesN p.data.toList.length + 1 := by rw [List.length_map, sectorsL_length]
  have hpl : piecesN p.data.toList.length ≤ 269 := pieces_le ok
  have hsz := (lay_crash (a := f + b) (l := (sectorsL ⟨kind, ep, l.length, p.data.toList⟩).map str) keep hr2 (sizes64 _) (by rw [hll]; omega) (by rw [hll]; omega) (by rw [hll]; omega)).2.2.1
  obtain ⟨g1, g2, g3⟩ := whole_law (fr := ⟨kind, ep, l.length, p.data.toList⟩) keep hr2 hfs (log_fuse hlog) hl rfl ok hroom (fun h => hg (by omega) h)
  refine .inr ?_
  rw [h1, h2]
  refine ⟨g1, by simp [checkE, g2], right_crash g2, by rw [crash_form keep g2], by rw [crash_form keep g2]; exact (stl_length _ _ _ _).trans hsz, ?_⟩
  rcases g3 with g3 | g3 | ⟨y, n2, rest, q, g4, g5, g6, g7⟩
  · exact .inl g3
  · exact .inr (.inl ⟨_, g3, hN⟩)
  · exact .inr (.inr ⟨y, n2, _, rest, q, g4, g5, by omega, g6, by omega⟩)
end Go.Proofs.Ytdgonhmipecjpaa
