/- wire's reader: change. -/
import Derived.Test.YtiodfbbgbnbdpaaChanges
import Derived.Test.YtiodfbbgbnbdpaaRPort
namespace Go.Proofs.Ytiodfbbgbnbdpaa
set_option linter.unusedSimpArgs false
set_option linter.unusedVariables false
open Go.RowKit
open Crc
/-- A change is taken: a list of one. -/
def rchL (x : Lf) : Option Chg × Lf :=
  match (chsL (byteL x).1.toNat (byteL x).2).1, (chsL (byteL x).1.toNat (byteL x).2).2.b with
  | [c], false => (some c, (chsL (byteL x).1.toNat (byteL x).2).2)
  | _, _ => (none, ⟨(chsL (byteL x).1.toNat (byteL x).2).2.l, true⟩)
def withC (a : Ask) : Option Chg → Ask
  | some c => ⟨a.k, a.n, c, a.v, a.ts⟩
  | none => a
set_option maxRecDepth 100000 in
set_option maxHeartbeats 1000000 in
theorem rchange_w {B g A : Nat} {a : Ask} {x : Lf} {w : World} (hg : B ≤ g) (hA : B ≤ A) (hne : A ≠ g) (h : Lb w g x) (hx : x.l.length ≤ 140737488351232) (ha : Blk w A (askCells a) 30) :
    Calls Try.prog 83 #[.pointer (some ⟨g, 0, none⟩), .pointer (some ⟨A, 2, none⟩)] w fun e w' => e = .returned (.tuple #[]) ∧ Lb w' g (rchL x).2 ∧ Blk w' A (askCells (withC a (rchL x).1)) 30 ∧ Kp2 B g A w w' := by
  have hc := changes_w g x w h hx
  have hr : rchL x = match (chsL (byteL x).1.toNat (byteL x).2).1, (chsL (byteL x).1.toNat (byteL x).2).2.b with
    | [c], false => (some c, (chsL (byteL x).1.toNat (byteL x).2).2)
    | _, _ => (none, ⟨(chsL (byteL x).1.toNat (byteL x).2).2.l, true⟩) := rfl
  have HR := hide hr
  clear hr
  obtain ⟨Y, hY⟩ := named (chsL (byteL x).1.toNat (byteL x).2)
  have HR2 : Hid (rchL x = match Y.1, Y.2.b with
    | [c], false => (some c, Y.2)
    | _, _ => (none, ⟨Y.2.l, true⟩)) := by rw [hY.out]; exact HR.out
  rw [← hY.out] at hc
  clear hY HR
  obtain ⟨cs, yl, yb⟩ := Y
  obtain ⟨R, hR⟩ := named (rchL x)
  rw [← hR.out] at HR2 ⊢
  clear hR
  simp only at hc HR2
  go_enter Try.func83, Try.ntmps83
  go_wp2_with fail
  refine hc.mono ?_
  rintro e w1 ⟨⟨v, rfl, hown⟩, h1, kp⟩
  have hb := ha.kp kp hne
  have k2 := kp.two (A := A) hg
  have h1c := h1.cell
  obtain ⟨A0, cc, rfl, _, _, hlies, _⟩ := Lies.of_own hown
  have bad : ∀ (hR : R = (none, ⟨yl, true⟩)) (w2 : World), Lb w2 g ⟨yl, true⟩ → Kp g w1 w2 → Lb w2 g R.2 ∧ Blk w2 A (askCells (withC a R.1)) 30 ∧ Kp2 B g A w w2 := fun hR w2 g1 g2 => by
    rw [hR]
    exact ⟨g1, hb.kp g2 hne, k2.trans (g2.two hg)⟩
  cases yb with
  | true =>
    have hR : R = (none, ⟨yl, true⟩) := by
      rw [HR2.out]
      match cs with
      | [] => rfl
      | [_] => rfl
      | _ :: _ :: _ => rfl
    have hBad := bad hR
    have hf := rfail_w h1
    clear bad hc HR2 hlies hown hb
    go_wp2_with fail
    refine hf.mono ?_
    rintro e w2 ⟨rfl, g1, g2⟩
    have hfin := hBad w2 g1 g2
    go_wp2
    refine bodyPost_ret (v := .tuple #[]) (by simp [results, Try.results83, go_sem]) rfl ?_
    exact ⟨rfl, hfin⟩
  | false =>
    by_cases hl : cs.length = 1
    · match cs, hl with
      | [⟨ck, ci, ct, cu, cv⟩], _ =>
      have hR : R = (some ⟨ck, ci, ct, cu, cv⟩, ⟨yl, false⟩) := HR2.out
      obtain ⟨b, o, rfl, hcell⟩ := hlies.2 (by simp [chsCells, chCells])
      have y0 : w1.cell? ⟨b, o, none⟩ = some (.int .u8 (ck.toNat : Int)) := hcell 0 _ rfl
      have y1 : w1.cell? ⟨b, o + 1, none⟩ = some (.string ci) := hcell 1 _ rfl
      have y2 : w1.cell? ⟨b, o + 2, none⟩ = some (.string ct) := hcell 2 _ rfl
      have y3 : w1.cell? ⟨b, o + 3, none⟩ = some (.string cu) := hcell 3 _ rfl
      have y4 : w1.cell? ⟨b, o + 4, none⟩ = some (.string cv) := hcell 4 _ rfl
      have x2 : w1.cell? ⟨A, 2, none⟩ = some (.int .u8 (a.c.k.toNat : Int)) := by rw [hb.cell]; rfl
      have x3 : w1.cell? ⟨A, 3, none⟩ = some (.string a.c.id) := by rw [hb.cell]; rfl
      have x4 : w1.cell? ⟨A, 4, none⟩ = some (.string a.c.tx) := by rw [hb.cell]; rfl
      have x5 : w1.cell? ⟨A, 5, none⟩ = some (.string a.c.ut) := by rw [hb.cell]; rfl
      have x6 : w1.cell? ⟨A, 6, none⟩ = some (.string a.c.ui) := by rw [hb.cell]; rfl
      have f := hb.free
      have hb2 := ((((hb.set 2 (.int .u8 (ck.toNat : Int))).set 3 (.string ci)).set 4 (.string ct)).set 5 (.string cu)).set 6 (.string cv)
      have k3 := ((((k2.set hA 2 (.int .u8 (ck.toNat : Int))).set hA 3 (.string ci)).set hA 4 (.string ct)).set hA 5 (.string cu)).set hA 6 (.string cv)
      have hne' : g ≠ A := fun e => hne e.symm
      have h3 := ((((h1.far (i := 2) hne' (.int .u8 (ck.toNat : Int))).far (i := 3) hne' (.string ci)).far (i := 4) hne' (.string ct)).far (i := 5) hne' (.string cu)).far (i := 6) hne' (.string cv)
      clear bad hc HR2 hlies hown hb hcell k2 h1
      go_wp2
      go_end0
      refine ⟨rfl, ?_, ?_, k3⟩
      · rw [hR]; exact h3
      · rw [hR]; exact hb2
    · have hR : R = (none, ⟨yl, true⟩) := by
        rw [HR2.out]
        match cs, hl with
        | [], _ => rfl
        | _ :: _ :: _, _ => rfl
      have hBad := bad hR
      have hf := rfail_w h1
      have hl1 : ((cs.length : Int) != 1) = true := by simp; omega
      have hl2 : ((cs.length : Int) == 1) = false := by simp; omega
      clear bad hc HR2 hlies hown hb hl
      go_wp2_with fail
      refine hf.mono ?_
      rintro e w2 ⟨rfl, g1, g2⟩
      have hfin := hBad w2 g1 g2
      go_wp2
      refine bodyPost_ret (v := .tuple #[]) (by simp [results, Try.results83, go_sem]) rfl ?_
      exact ⟨rfl, hfin⟩
end Go.Proofs.Ytiodfbbgbnbdpaa
