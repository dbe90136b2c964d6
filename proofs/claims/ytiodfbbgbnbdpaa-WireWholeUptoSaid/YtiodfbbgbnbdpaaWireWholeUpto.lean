/- Proved: the statement WireWholeUptoSaid: the law WireWhole returns true for every input within the statement's bound, and its arguments read behind the call as they read before. Conditions: none beyond the statement's own. -/
import Derived.Test.YtiodfbbgbnbdpaaWWhole2
import Derived.Test.YtiodfbbgbnbdpaaLawRep
namespace Go.Proofs.Ytiodfbbgbnbdpaa.wireWhole
open Go.ChangeShapes Go.WideShapes Go.ChangeAt Go.RowKit
open Go.ChangeMaps (open_string shut_string)
set_option linter.unusedVariables false

theorem own : ownKnob Try.prog.godebug = none := by kernel_rfl
theorem laidOut : laidOutB Try.prog = true := by kernel_rfl

set_option maxRecDepth 100000 in
theorem lifted (os : Os) (started : os.Started) (H : Type) (enc : TypeId × Value → H) (F : Stop.Interp) :
    ReturnsInHanded {} Try.checked os 8 .any ((Rows.OpenSpec.upto Rows.wireWholeSpec).pre6 enc Try.prog Try.f8 Rows.wireWholeUptoRow.domain false) (((Rows.OpenSpec.upto Rows.wireWholeSpec).at F).post enc Try.prog Try.f8 false true false false) := by
  refine returnsInHanded_of_cond (C := Try.checked) (s := Rows.OpenSpec.upto Rows.wireWholeSpec) (k := Rows.uptoSmall) rfl own started (by kernel_rfl) Try.func8
    (OpenSpec.witness (enc := enc) (C := Try.checked) (s := Rows.OpenSpec.upto Rows.wireWholeSpec) (k := Rows.uptoSmall) rfl false ⟨#[], #[.agg #[.int .u8 0, .int .u64 0, .int .u8 0, .string ByteArray.empty, .string ByteArray.empty, .string ByteArray.empty, .string ByteArray.empty, .int .u64 0, .string ByteArray.empty, .string ByteArray.empty, .string ByteArray.empty, .string ByteArray.empty, .string ByteArray.empty, .string ByteArray.empty, .string ByteArray.empty], .agg #[.int .i64 0, .int .u64 0, .int .i64 0, .bool false, .slice none 0 0, .slice none 0 0], .int .i64 0, .int .u8 0], []⟩ 8 (by kernel_rfl) (by kernel_rfl) (by kernel_rfl)
      (x := ([.agg [.lit (.int .u8 0), .lit (.int .u64 0), .agg [.lit (.int .u8 0), .lit (.string []), .lit (.string []), .agg [.lit (.string []), .lit (.string [])]], .lit (.int .u64 0), .agg [.lit (.string []), .lit (.string [])], .agg [.lit (.string []), .lit (.string [])], .agg [.lit (.string []), .lit (.string [])], .lit (.string [])], .agg [.lit (.int .i64 0), .lit (.int .u64 0), .lit (.int .i64 0), .agg [.lit (.bool false), .nil, .nil]], .lit (.int .i64 0), .lit (.int .u8 0)], [], [])) (by kernel_rfl) rfl (by kernel_rfl)) ?_
  intro W base args ds gs before hval0 hW hcnd hk _
  have hval : ∀ (j : Nat) t v, Try.f8.params[j]? = some t → args[j]? = some v → Value.okWide Try.prog W .any base t v := hval0
  have hW' := hW
  obtain ⟨p, q, hA0, hV, rfl, hfz, hnd⟩ := hW
  have hA : DataW.TrodAll enc Try.prog W 0 (fun _ => true) true Try.f8.params.toList args.toList ds p := hA0
  rw [Try.params8] at hA hval
  obtain ⟨v0, vs0, d0, ds0, p0, q0, hargs, rfl, rfl, h0, r0⟩ := trodAll_cons hA
  obtain ⟨v1, vs1, d1, ds1, p1, q1, rfl, rfl, rfl, h1, r1⟩ := trodAll_cons r0
  obtain ⟨v2, vs2, d2, ds2, p2, q2, rfl, rfl, rfl, h2, r2⟩ := trodAll_cons r1
  obtain ⟨v3, vs3, d3, ds3, p3, q3, rfl, rfl, rfl, h3, r3⟩ := trodAll_cons r2
  obtain ⟨rfl, rfl, rfl⟩ := trodAll_nil r3
  obtain rfl : args = #[v0, v1, v2, v3] := by cases args; simp_all
  obtain ⟨rfl, rfl⟩ := trodVars_none hV
  have hbound := of_decide_eq_true hk
  obtain ⟨a0, rfl, l0, n0, m0, t0⟩ := open_ask (hval 0 30 v0 rfl rfl) h0
  have z0 := t0 (by have h := hbound; simp only [List.append_nil, Rows.uptoBulkAll] at h; omega)
  obtain ⟨a1, A1, B1, m1, n1, rfl, g1, t1, u1, s1, r1', x1⟩ := open_reply (hval 1 44 v1 rfl rfl) h1
  have z1 := x1 (by have h := hbound; simp only [List.append_nil, Rows.uptoBulkAll] at h; omega)
  obtain ⟨a2, rfl, rfl, rfl, wf2⟩ := open_int Try.underlying3 (hval 2 3 v2 rfl rfl) h2
  have b2 := bnd_i64 wf2
  obtain ⟨z3, rfl, rfl, rfl, wf3⟩ := open_int Try.underlying5 (hval 3 5 v3 rfl rfl) h3
  obtain ⟨a3, rfl, b3⟩ := nat_u8 wf3
  refine (wirewhole_w a0 a1 A1 B1 m1 n1 a2 a3 W l0 n0 m0 z0.1 g1 t1 u1 s1 r1' z1.1 z1.2.1 z1.2.2.1 z1.2.2.2 b2 b3).mono fun e W' ⟨he, hb⟩ => ?_
  exact ⟨_, he, law_post laidOut rfl Try.underlying4 (by kernel_rfl) (by kernel_rfl) (fun xs hx => match xs, hx with | [_, _, _, _], _ => rfl) hW' hb⟩

theorem over : Rows.wireWholeUptoRow.holds Try.pinned (Rows.OpenSpec.upto Rows.wireWholeSpec) :=
  OpenClaim.holds_of_cond 8 Try.f8 rfl rfl rfl rfl rfl rfl rfl ⟨rfl, rfl, rfl, rfl, rfl⟩ rfl rfl rfl rfl rfl (by kernel_rfl) Try.func8 (by kernel_rfl)
    (of_decide_eq_true (by kernel_rfl)) (by unfold Func.isWrapper; rw [if_neg (by decide +kernel)]; exact ⟨rfl, rfl⟩)
    (fun os started H enc _ F => lifted os started H enc F)

/-- The statement. -/
theorem proved : Rows.WireWholeUptoSaid := over
end Go.Proofs.Ytiodfbbgbnbdpaa.wireWhole
