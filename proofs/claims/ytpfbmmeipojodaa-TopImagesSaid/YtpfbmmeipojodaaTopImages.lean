/- Proved: the statement TopImagesSaid: the law TopImages returns true for every input, and its arguments read behind the call as they read before. Conditions: none beyond the statement's own. -/
import Derived.Test.YtpfbmmeipojodaaTopW3
import Derived.Test.YtpfbmmeipojodaaGL
import Derived.Test.YtpfbmmeipojodaaLawStrs
import Derived.Test.YtpfbmmeipojodaaLawInts
namespace Go.Proofs.Ytpfbmmeipojodaa.topImages
open Go.ChangeShapes Go.WideShapes Go.ChangeAt Go.RowKit
open Go.ChangeMaps (open_string shut_string)
set_option linter.unusedVariables false

theorem own : ownKnob Try.prog.godebug = none := by kernel_rfl
theorem laidOut : laidOutB Try.prog = true := by kernel_rfl

set_option maxRecDepth 100000 in
theorem lifted (os : Os) (started : os.Started) (H : Type) (enc : TypeId × Value → H) :
    ReturnsInHanded {} Try.checked os 3 .any (Rows.topImagesSpec.pre6 enc Try.prog Try.f3 Rows.topImagesRow.domain false) (Rows.topImagesSpec.post enc Try.prog Try.f3 false true false false) := by
  refine returnsInHanded_of_change_sized (C := Try.checked) own started (by kernel_rfl) Try.func3
    (ChangeSpec.witness6 (enc := enc) (C := Try.checked) false ⟨#[], #[.int .i64 0, .slice none 0 0, .slice none 0 0, .slice none 0 0], []⟩ 8 (by kernel_rfl) (by kernel_rfl) (by kernel_rfl) (by kernel_rfl)) ?_
  intro W base args ds gs before hval0 hW hcnd hsz _
  have hval : ∀ (j : Nat) t v, Try.f3.params[j]? = some t → args[j]? = some v → Value.okWide Try.prog W .any base t v := hval0
  have hW' := hW
  obtain ⟨p, q, hA0, hV, rfl, hfz, hnd⟩ := hW
  have hA : DataW.TrodAll enc Try.prog W 0 (fun _ => true) true Try.f3.params.toList args.toList ds p := hA0
  rw [Try.params3] at hA hval
  obtain ⟨v0, vs0, d0, ds0, p0, q0, hargs, rfl, rfl, h0, r0⟩ := trodAll_cons hA
  obtain ⟨v1, vs1, d1, ds1, p1, q1, rfl, rfl, rfl, h1, r1⟩ := trodAll_cons r0
  obtain ⟨v2, vs2, d2, ds2, p2, q2, rfl, rfl, rfl, h2, r2⟩ := trodAll_cons r1
  obtain ⟨v3, vs3, d3, ds3, p3, q3, rfl, rfl, rfl, h3, r3⟩ := trodAll_cons r2
  obtain ⟨rfl, rfl, rfl⟩ := trodAll_nil r3
  obtain rfl : args = #[v0, v1, v2, v3] := by cases args; simp_all
  obtain ⟨rfl, rfl⟩ := trodVars_none hV
  obtain ⟨a0, rfl, rfl, rfl, wf0⟩ := open_int Try.underlying3 (hval 0 3 v0 rfl rfl) h0
  have b0 := bnd_i64 wf0
  obtain ⟨a1, A1, m1, rfl, t1, s1⟩ := open_strs (hval 1 22 v1 rfl rfl) h1
  have z1 := s1 (fun k hk => by simpa using List.all_eq_true.1 hsz k (DataW.weights_mem_each (j := 1) rfl rfl k hk))
  obtain ⟨a2, A2, m2, rfl, t2, s2⟩ := open_intlist (hval 2 23 v2 rfl rfl) h2
  have z2 := s2 (fun k hk => by simpa using List.all_eq_true.1 hsz k (DataW.weights_mem_each (j := 2) rfl rfl k hk))
  obtain ⟨a3, A3, m3, rfl, t3, s3⟩ := open_keep (hval 3 24 v3 rfl rfl) h3
  have z3 := s3 (fun k hk => by simpa using List.all_eq_true.1 hsz k (DataW.weights_mem_each (j := 3) rfl rfl k hk))
  refine (topimages_w a0 A1 m1 a1 A2 m2 a2 A3 m3 a3 W b0 t1 (by omega) t2 z2 t3).mono fun e W' ⟨he, hb⟩ => ?_
  exact ⟨_, he, law_post laidOut rfl Try.underlying4 (by kernel_rfl) (by kernel_rfl) (fun xs hx => match xs, hx with | [_, _, _, _], _ => rfl) hW' hb⟩

theorem over : Rows.topImagesRow.holds Try.pinned (OpenSpec.ofChange Rows.topImagesSpec) :=
  OpenClaim.holds_of_wide 3 Try.f3 rfl rfl rfl rfl rfl rfl rfl ⟨rfl, rfl, rfl, rfl, rfl⟩ rfl rfl rfl rfl rfl (by kernel_rfl) Try.func3 (by kernel_rfl)
    (of_decide_eq_true (by kernel_rfl)) (by unfold Func.isWrapper; rw [if_neg (by decide +kernel)]; exact ⟨rfl, rfl⟩)
    (fun os started H enc _ => lifted os started H enc)

/-- The statement. -/
theorem proved : Rows.TopImagesSaid := over
end Go.Proofs.Ytpfbmmeipojodaa.topImages
