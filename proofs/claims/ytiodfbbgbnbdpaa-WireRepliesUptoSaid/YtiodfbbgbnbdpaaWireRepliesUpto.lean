/- Proved: the statement WireRepliesUptoSaid: the law WireReplies returns true for every input within the statement's bound, and its arguments read behind the call as they read before. Conditions: none beyond the statement's own. -/
import Derived.Test.YtiodfbbgbnbdpaaWReplies
import Derived.Test.YtiodfbbgbnbdpaaLawRep
namespace Go.Proofs.Ytiodfbbgbnbdpaa.wireReplies
open Go.ChangeShapes Go.WideShapes Go.ChangeAt Go.RowKit
open Go.ChangeMaps (open_string shut_string)
set_option linter.unusedVariables false

theorem own : ownKnob Try.prog.godebug = none := by kernel_rfl
theorem laidOut : laidOutB Try.prog = true := by kernel_rfl

set_option maxRecDepth 100000 in
theorem lifted (os : Os) (started : os.Started) (H : Type) (enc : TypeId × Value → H) (F : Stop.Interp) :
    ReturnsInHanded {} Try.checked os 6 .any ((Rows.OpenSpec.upto Rows.wireRepliesSpec).pre6 enc Try.prog Try.f6 Rows.wireRepliesUptoRow.domain false) (((Rows.OpenSpec.upto Rows.wireRepliesSpec).at F).post enc Try.prog Try.f6 false true false false) := by
  refine returnsInHanded_of_cond (C := Try.checked) (s := Rows.OpenSpec.upto Rows.wireRepliesSpec) (k := Rows.uptoSmall) rfl own started (by kernel_rfl) Try.func6
    (OpenSpec.witness (enc := enc) (C := Try.checked) (s := Rows.OpenSpec.upto Rows.wireRepliesSpec) (k := Rows.uptoSmall) rfl false ⟨#[], #[.agg #[.int .i64 0, .int .u64 0, .int .i64 0, .bool false, .slice none 0 0, .slice none 0 0], .string ByteArray.empty], []⟩ 8 (by kernel_rfl) (by kernel_rfl) (by kernel_rfl)
      (x := ([.agg [.lit (.int .i64 0), .lit (.int .u64 0), .lit (.int .i64 0), .agg [.lit (.bool false), .nil, .nil]], .lit (.string [])], [], [])) (by kernel_rfl) rfl (by kernel_rfl)) ?_
  intro W base args ds gs before hval0 hW hcnd hk _
  have hval : ∀ (j : Nat) t v, Try.f6.params[j]? = some t → args[j]? = some v → Value.okWide Try.prog W .any base t v := hval0
  have hW' := hW
  obtain ⟨p, q, hA0, hV, rfl, hfz, hnd⟩ := hW
  have hA : DataW.TrodAll enc Try.prog W 0 (fun _ => true) true Try.f6.params.toList args.toList ds p := hA0
  rw [Try.params6] at hA hval
  obtain ⟨v0, vs0, d0, ds0, p0, q0, hargs, rfl, rfl, h0, r0⟩ := trodAll_cons hA
  obtain ⟨v1, vs1, d1, ds1, p1, q1, rfl, rfl, rfl, h1, r1⟩ := trodAll_cons r0
  obtain ⟨rfl, rfl, rfl⟩ := trodAll_nil r1
  obtain rfl : args = #[v0, v1] := by cases args; simp_all
  obtain ⟨rfl, rfl⟩ := trodVars_none hV
  have hbound := of_decide_eq_true hk
  obtain ⟨a0, A0, B0, m0, n0, rfl, g0, t0, u0, s0, r0', x0⟩ := open_reply (hval 0 44 v0 rfl rfl) h0
  have z0 := x0 (by have h := hbound; simp only [List.append_nil, Rows.uptoBulkAll] at h; omega)
  obtain ⟨a1, rfl, rfl, rfl, c1⟩ := open_string Try.underlying9 (hval 1 9 v1 rfl rfl) h1
  have b1 : a1.size ≤ 140737488351232 := by have h := hbound; simp only [List.append_nil, Rows.uptoBulkAll, Rows.uptoBulk, Array.length_toList] at h; have e : a1.size = a1.data.size := rfl; omega
  refine (wirereplies_w a0 A0 B0 m0 n0 a1 W g0 t0 u0 s0 r0' z0.1 z0.2.1 z0.2.2.1 z0.2.2.2 b1).mono fun e W' ⟨he, hb⟩ => ?_
  exact ⟨_, he, law_post laidOut rfl Try.underlying4 (by kernel_rfl) (by kernel_rfl) (fun xs hx => match xs, hx with | [_, _], _ => rfl) hW' hb⟩

theorem over : Rows.wireRepliesUptoRow.holds Try.pinned (Rows.OpenSpec.upto Rows.wireRepliesSpec) :=
  OpenClaim.holds_of_cond 6 Try.f6 rfl rfl rfl rfl rfl rfl rfl ⟨rfl, rfl, rfl, rfl, rfl⟩ rfl rfl rfl rfl rfl (by kernel_rfl) Try.func6 (by kernel_rfl)
    (of_decide_eq_true (by kernel_rfl)) (by unfold Func.isWrapper; rw [if_neg (by decide +kernel)]; exact ⟨rfl, rfl⟩)
    (fun os started H enc _ F => lifted os started H enc F)

/-- The statement. -/
theorem proved : Rows.WireRepliesUptoSaid := over
end Go.Proofs.Ytiodfbbgbnbdpaa.wireReplies
