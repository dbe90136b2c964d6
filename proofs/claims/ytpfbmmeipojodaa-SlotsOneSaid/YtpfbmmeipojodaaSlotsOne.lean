/- Proved: the statement SlotsOneSaid: the law SlotsOne returns true for every input, and its arguments read behind the call as they read before. Conditions: none beyond the statement's own. -/
import Derived.Test.YtpfbmmeipojodaaSlW5
import Derived.Test.YtpfbmmeipojodaaGL
import Derived.Test.YtpfbmmeipojodaaLawStrs
namespace Go.Proofs.Ytpfbmmeipojodaa.slotsOne
open Go.ChangeShapes Go.WideShapes Go.ChangeAt Go.RowKit
open Go.ChangeMaps (open_string shut_string)
set_option linter.unusedVariables false

theorem own : ownKnob Try.prog.godebug = none := by kernel_rfl
theorem laidOut : laidOutB Try.prog = true := by kernel_rfl

set_option maxRecDepth 100000 in
theorem lifted (os : Os) (started : os.Started) (H : Type) (enc : TypeId × Value → H) :
    ReturnsInHanded {} Try.checked os 8 .any (Rows.slotsOneSpec.pre6 enc Try.prog Try.f8 Rows.slotsOneRow.domain false) (Rows.slotsOneSpec.post enc Try.prog Try.f8 false true false false) := by
  refine returnsInHanded_of_change_sized (C := Try.checked) own started (by kernel_rfl) Try.func8
    (ChangeSpec.witness6 (enc := enc) (C := Try.checked) false ⟨#[], #[.int .i64 0, .slice none 0 0, .string ByteArray.empty, .int .i64 0, .slice none 0 0], []⟩ 8 (by kernel_rfl) (by kernel_rfl) (by kernel_rfl) (by kernel_rfl)) ?_
  intro W base args ds gs before hval0 hW hcnd hsz _
  have hval : ∀ (j : Nat) t v, Try.f8.params[j]? = some t → args[j]? = some v → Value.okWide Try.prog W .any base t v := hval0
  have hW' := hW
  obtain ⟨p, q, hA0, hV, rfl, hfz, hnd⟩ := hW
  have hA : DataW.TrodAll enc Try.prog W 0 (fun _ => true) true Try.f8.params.toList args.toList ds p := hA0
  rw [Try.params8] at hA hval
  obtain ⟨v0, vs0, d0, ds0, p0, q0, hargs, rfl, rfl, h0, r0⟩ := trodAll_cons hA
  obtain ⟨v1, vs1, d1, ds1, p1, q1, rfl, rfl, rfl, h1, r1⟩ := trodAll_cons r0
  obtain ⟨v2, vs2, d2, ds2, p2, q2, rfl, rfl, rfl, h2, r2⟩ := trodAll_cons r1
  obtain ⟨v3, vs3, d3, ds3, p3, q3, rfl, rfl, rfl, h3, r3⟩ := trodAll_cons r2
  obtain ⟨v4, vs4, d4, ds4, p4, q4, rfl, rfl, rfl, h4, r4⟩ := trodAll_cons r3
  obtain ⟨rfl, rfl, rfl⟩ := trodAll_nil r4
  obtain rfl : args = #[v0, v1, v2, v3, v4] := by cases args; simp_all
  obtain ⟨rfl, rfl⟩ := trodVars_none hV
  obtain ⟨a0, rfl, rfl, rfl, wf0⟩ := open_int Try.underlying3 (hval 0 3 v0 rfl rfl) h0
  have b0 := bnd_i64 wf0
  obtain ⟨a1, A1, m1, rfl, t1, s1⟩ := open_strs (hval 1 22 v1 rfl rfl) h1
  have z1 := s1 (fun k hk => by simpa using List.all_eq_true.1 hsz k (DataW.weights_mem_each (j := 1) rfl rfl k hk))
  obtain ⟨a2, rfl, rfl, rfl, c2⟩ := open_string Try.underlying9 (hval 2 9 v2 rfl rfl) h2
  obtain ⟨a3, rfl, rfl, rfl, wf3⟩ := open_int Try.underlying3 (hval 3 3 v3 rfl rfl) h3
  have b3 := bnd_i64 wf3
  obtain ⟨a4, A4, m4, rfl, t4, s4⟩ := open_keep (hval 4 24 v4 rfl rfl) h4
  have z4 := s4 (fun k hk => by simpa using List.all_eq_true.1 hsz k (DataW.weights_mem_each (j := 4) rfl rfl k hk))
  have b2 : a2.size ≤ 140737488351232 := sized_bytes hsz 2 9 rfl rfl
  refine (slotsone_w a0 A1 m1 a1 a2 a3 A4 m4 a4 W b0 t1 (by omega) b2 b3 t4).mono fun e W' ⟨he, hb⟩ => ?_
  exact ⟨_, he, law_post laidOut rfl Try.underlying4 (by kernel_rfl) (by kernel_rfl) (fun xs hx => match xs, hx with | [_, _, _, _, _], _ => rfl) hW' hb⟩

theorem over : Rows.slotsOneRow.holds Try.pinned (OpenSpec.ofChange Rows.slotsOneSpec) :=
  OpenClaim.holds_of_wide 8 Try.f8 rfl rfl rfl rfl rfl rfl rfl ⟨rfl, rfl, rfl, rfl, rfl⟩ rfl rfl rfl rfl rfl (by kernel_rfl) Try.func8 (by kernel_rfl)
    (of_decide_eq_true (by kernel_rfl)) (by unfold Func.isWrapper; rw [if_neg (by decide +kernel)]; exact ⟨rfl, rfl⟩)
    (fun os started H enc _ => lifted os started H enc)

/-- The statement. -/
theorem proved : Rows.SlotsOneSaid := over
end Go.Proofs.Ytpfbmmeipojodaa.slotsOne
