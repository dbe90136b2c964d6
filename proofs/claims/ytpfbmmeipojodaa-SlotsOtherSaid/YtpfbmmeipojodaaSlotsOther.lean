/- Proved: the statement SlotsOtherSaid: the law SlotsOther returns true for every input, and its arguments read behind the call as they read before. Conditions: none beyond the statement's own. -/
import Derived.Test.YtpfbmmeipojodaaSlW3
import Derived.Test.YtpfbmmeipojodaaGL
namespace Go.Proofs.Ytpfbmmeipojodaa.slotsOther
open Go.ChangeShapes Go.WideShapes Go.ChangeAt Go.RowKit
open Go.ChangeMaps (open_string shut_string)
set_option linter.unusedVariables false

theorem own : ownKnob Try.prog.godebug = none := by kernel_rfl
theorem laidOut : laidOutB Try.prog = true := by kernel_rfl

set_option maxRecDepth 100000 in
theorem lifted (os : Os) (started : os.Started) (H : Type) (enc : TypeId × Value → H) :
    ReturnsInHanded {} Try.checked os 6 .any (Rows.slotsOtherSpec.pre6 enc Try.prog Try.f6 Rows.slotsOtherRow.domain false) (Rows.slotsOtherSpec.post enc Try.prog Try.f6 false true false false) := by
  refine returnsInHanded_of_change_sized (C := Try.checked) own started (by kernel_rfl) Try.func6
    (ChangeSpec.witness6 (enc := enc) (C := Try.checked) false ⟨#[], #[.agg #[.slice none 0 0, .slice none 0 0, .bool false, .int .i64 0], .agg #[.int .i64 0, .int .i64 0], .agg #[.int .i64 0, .int .i64 0], .agg #[.int .u64 0, .string ByteArray.empty]], []⟩ 8 (by kernel_rfl) (by kernel_rfl) (by kernel_rfl) (by kernel_rfl)) ?_
  intro W base args ds gs before hval0 hW hcnd hsz _
  have hval : ∀ (j : Nat) t v, Try.f6.params[j]? = some t → args[j]? = some v → Value.okWide Try.prog W .any base t v := hval0
  have hW' := hW
  obtain ⟨p, q, hA0, hV, rfl, hfz, hnd⟩ := hW
  have hA : DataW.TrodAll enc Try.prog W 0 (fun _ => true) true Try.f6.params.toList args.toList ds p := hA0
  rw [Try.params6] at hA hval
  obtain ⟨v0, vs0, d0, ds0, p0, q0, hargs, rfl, rfl, h0, r0⟩ := trodAll_cons hA
  obtain ⟨v1, vs1, d1, ds1, p1, q1, rfl, rfl, rfl, h1, r1⟩ := trodAll_cons r0
  obtain ⟨v2, vs2, d2, ds2, p2, q2, rfl, rfl, rfl, h2, r2⟩ := trodAll_cons r1
  obtain ⟨v3, vs3, d3, ds3, p3, q3, rfl, rfl, rfl, h3, r3⟩ := trodAll_cons r2
  obtain ⟨rfl, rfl, rfl⟩ := trodAll_nil r3
  obtain rfl : args = #[v0, v1, v2, v3] := by cases args; simp_all
  obtain ⟨rfl, rfl⟩ := trodVars_none hV
  obtain ⟨a0, A0, m0, B0, n0, rfl, t0, u0, f0, s0⟩ := open_disk (hval 0 28 v0 rfl rfl) h0
  have z0 := s0 (fun k hk => by simpa using List.all_eq_true.1 hsz k (DataW.weights_mem_each (j := 0) rfl rfl k hk))
  obtain ⟨a1, m1, rfl, t1, u1⟩ := open_region (hval 1 33 v1 rfl rfl) h1
  obtain ⟨a2, m2, rfl, t2, u2⟩ := open_region (hval 2 33 v2 rfl rfl) h2
  obtain ⟨a3, m3, rfl, t3⟩ := open_image (hval 3 36 v3 rfl rfl) h3
  refine (slotsother_w A0 B0 m0 n0 a0 a1 m1 a2 m2 a3 m3 W t0 u0 z0.1 z0.2 f0.1 f0.2 t1 u1 t2 u2 t3).mono fun e W' ⟨he, hb⟩ => ?_
  exact ⟨_, he, law_post laidOut rfl Try.underlying4 (by kernel_rfl) (by kernel_rfl) (fun xs hx => match xs, hx with | [_, _, _, _], _ => rfl) hW' hb⟩

theorem over : Rows.slotsOtherRow.holds Try.pinned (OpenSpec.ofChange Rows.slotsOtherSpec) :=
  OpenClaim.holds_of_wide 6 Try.f6 rfl rfl rfl rfl rfl rfl rfl ⟨rfl, rfl, rfl, rfl, rfl⟩ rfl rfl rfl rfl rfl (by kernel_rfl) Try.func6 (by kernel_rfl)
    (of_decide_eq_true (by kernel_rfl)) (by unfold Func.isWrapper; rw [if_neg (by decide +kernel)]; exact ⟨rfl, rfl⟩)
    (fun os started H enc _ => lifted os started H enc)

/-- The statement. -/
theorem proved : Rows.SlotsOtherSaid := over
end Go.Proofs.Ytpfbmmeipojodaa.slotsOther
