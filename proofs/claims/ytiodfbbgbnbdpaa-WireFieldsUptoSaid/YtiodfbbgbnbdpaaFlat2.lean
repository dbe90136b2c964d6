/- A drawn region as in XFlat, where a value's fact may end with the operation that takes it. -/
import Derived.Test.YtiodfbbgbnbdpaaFlat
namespace Go.Proofs.Ytiodfbbgbnbdpaa
open Go.RowKit
section
variable {P : Program} {ops : Array Oper}
/-! ### What a value stands for may end with the operation that takes it. -/
def FlatOpL (P : Program) (ops : Array Oper) (aF : (Nat → Value) → Act) (S : World → Prop) (G : Nat → World → World → Prop) (R : (Nat → Bool) → Nat → Value → World → Prop) (i : Nat) (o : Oper) : Prop :=
  ∀ L : Nat → Bool, L i = false → ∀ (v : Nat → Value) (w : World), S w → waited (R L) v w o.after.toList → ∀ K : Act → World → Prop, Hid (∀ x w', S w' ∧ G i w w' ∧ R L i x w' → K ((aF v).put o.dst x) w') →
    if Region.wanted o (yielded ops (aF v).tmps) then o.wp P (aF v) w K (fun _ _ _ => False) else K ((aF v).put o.dst undef) w
def FlatOpsL (P : Program) (ops : Array Oper) (aF : (Nat → Value) → Act) (S : World → Prop) (G : Nat → World → World → Prop) (R : (Nat → Bool) → Nat → Value → World → Prop) : List Oper → Nat → Prop
  | [], _ => True
  | o :: os, i => FlatOpL P ops aF S G R i o ∧ FlatOpsL P ops aF S G R os (i + 1)
theorem FlatOpsL.get {aF : (Nat → Value) → Act} {S : World → Prop} {G : Nat → World → World → Prop} {R : (Nat → Bool) → Nat → Value → World → Prop} : ∀ {os : List Oper} {i : Nat}, FlatOpsL P ops aF S G R os i → ∀ {k : Nat} {o : Oper}, os[k]? = some o → FlatOpL P ops aF S G R (i + k) o := by
  intro os
  induction os with
  | nil => intro i _ k o h; simp at h
  | cons x os ih =>
    intro i h k o hk
    cases k with
    | zero => simp at hk; subst hk; exact h.1
    | succ k =>
      rw [List.getElem?_cons_succ] at hk
      have := ih h.2 hk
      rw [show i + (k + 1) = i + 1 + k by omega]
      exact this
theorem flatL_core {a : Act} {w : World} {Q : Exit → Act → World → Prop} (aF : (Nat → Value) → Act) (S : World → Prop) (G : Nat → World → World → Prop) (R : (Nat → Bool) → Nat → Value → World → Prop)
    (hok : flatOk ops = true) (haF : ∀ v, putsV ops.toList 0 v a = aF v)
    (hstab : ∀ i L j x w w', L i = false → i ≠ j → G i w w' → R L j x w → R (fun k => decide (k = i) || L k) j x w') (hself : ∀ i L x w, L i = false → R L i x w → R (fun k => decide (k = i) || L k) i x w) (hS : S w.drew)
    (hops : FlatOpsL P ops aF S G R ops.toList 0)
    (hext : ∀ L L' j x w, (∀ k, k < ops.size → L k = L' k) → R L j x w → R L' j x w) (hQ : ∀ v w', S w' → holdAll (R fun _ => true) v w' ops.size → Q .normal (aF v) w') : any0 P ops Q ops.size (Array.replicate ops.size false) a w.drew := by
  have hf := flat_of hok
  have key : ∀ (fuel : Nat) (listed : Array Bool) (b : Act) (u : World) (v : Nat → Value), listed.size = ops.size → listed.toList.count false ≤ fuel → PutAt ops (fun j => listed.getD j false) v a b → S u →
      (∀ j, j < ops.size → listed.getD j false = true → R (fun k => listed.getD k false) j (v j) u) → any0 P ops Q fuel listed b u := by
    have hfin : ∀ (listed : Array Bool) (b : Act) (u : World) (v : Nat → Value), (∀ j, j < ops.size → listed.getD j false = true) → PutAt ops (fun j => listed.getD j false) v a b → S u →
        (∀ j, j < ops.size → listed.getD j false = true → R (fun k => listed.getD k false) j (v j) u) → Q .normal b u := by
      intro listed b u v hall hat hSu hR
      have e := (hat.congr (L' := fun _ => true) (v' := v) hall (fun _ _ _ => rfl)).ext (full_at hf v a)
      rw [e, haF v]
      exact hQ v u hSu (holdAll_of fun j hj => hext _ _ _ _ _ (fun k hk => hall k hk) (hR j hj (hall j hj)))
    intro fuel
    induction fuel with
    | zero =>
      intro listed b u v hsz hc hat hSu hR
      have hall : ∀ j, j < ops.size → listed.getD j false = true := by
        intro j hj
        have h0 := List.count_eq_zero.1 (Nat.le_zero.1 hc)
        cases hx : listed.getD j false with
        | true => rfl
        | false =>
          refine absurd ?_ h0
          have hlt : j < listed.size := by omega
          have : listed[j] = false := by simpa [hlt] using hx
          rw [← this]
          simp
      refine ⟨?_, hfin listed b u v hall hat hSu hR⟩
      refine List.filter_eq_nil_iff.2 fun i hi => ?_
      have hi2 := List.mem_range.1 hi
      have := hall i hi2
      have hlt : i < listed.size := by omega
      simp [hlt] at this ⊢
      simp [this]
    | succ fuel ih =>
      intro listed b u v hsz hc hat hSu hR
      refine ⟨fun hnil => hfin listed b u v ?_ hat hSu hR, fun i hi => ?_⟩
      · intro j
        induction j using Nat.strongRecOn with
        | _ j ihj =>
          intro hj
          cases hx : listed.getD j false with
          | true => rfl
          | false =>
            exfalso
            have hm2 : j ∈ Region.ready .any ops listed := by
              refine mem_ready.2 ⟨?_, ops[j], by simp [hj], fun e he hb => ?_⟩
              · have hlt : j < listed.size := by omega
                simpa [hlt] using hx
              · have hlt := hf.back (i := j) (by simp [hj]) e he hb
                exact ihj e.on hlt (by omega)
            rw [hnil] at hm2
            cases hm2
      · obtain ⟨hun, o, ho, hdep⟩ := mem_ready.1 hi
        have hio := (Array.getElem?_eq_some_iff.1 ho).1
        have hlt : i < listed.size := by omega
        have hli : listed[i] = false := by simpa [hlt] using hun
        have hfull := full_at hf v a
        rw [haF v] at hfull
        have hl := looks_eq hf hio (fun j h1 h2 => absurd h2 (by omega)) ho hat hfull hdep (fun _ _ _ => rfl)
        have hop := hops.get (k := i) (o := o) (by simpa using ho)
        rw [Nat.zero_add] at hop
        have next : ∀ (x : Value) (u' : World), S u' ∧ G i u u' ∧ R (fun k => listed.getD k false) i x u' → any0 P ops Q fuel (listed.setIfInBounds i true) (b.put o.dst x) u' := by
          rintro x u' ⟨hS', hG, hRi⟩
          refine ih _ _ _ (updV v i x) (by simpa using hsz) ?_ (hat.put hf ho x (fun j hj => getD_set_ne false (Ne.symm hj)) (by simp [hlt])) hS' ?_
          · rw [Array.toList_setIfInBounds, List.count_set (by simpa using hlt)]
            simp only [Array.getElem_toList, hli]
            have : 0 < listed.toList.count false := List.count_pos_iff.2 (by rw [← hli]; simp)
            simp only [BEq.rfl, if_true, show (true == false) = false from rfl, Bool.false_eq_true, if_false, Nat.add_zero]
            omega
          · intro j hj hlj
            have hL' : ∀ k, (listed.setIfInBounds i true).getD k false = (decide (k = i) || listed.getD k false) := fun k => by
              by_cases hki : k = i
              · subst hki; simp [hlt]
              · rw [getD_set_ne false (Ne.symm hki)]; simp [hki]
            have hLi : (fun k => listed.getD k false) i = false := by show listed.getD i false = false; simp [hlt, hli]
            refine hext (fun k => decide (k = i) || listed.getD k false) _ j _ u' (fun k _ => (hL' k).symm) ?_
            by_cases hji : j = i
            · subst hji
              simp only [updV, if_true]
              exact hself _ _ _ _ hLi hRi
            · rw [getD_set_ne false (Ne.symm hji)] at hlj
              simp only [updV, if_neg hji]
              exact hstab i _ j _ _ _ hLi (Ne.symm hji) hG (hR j hj hlj)
        have hR' : ∀ e ∈ o.after.toList, Region.binds .any e = true → R (fun k => listed.getD k false) e.on (v e.on) u := fun e he hb => by
          have he' : e ∈ o.after := by simpa using he
          exact hR e.on (Nat.lt_trans (hf.back ho e he' hb) hio) (hdep e he' hb)
        have hsize : (aF v).tmps.size = b.tmps.size := hfull.2.1.trans hat.2.1.symm
        have h := hop _ (by show listed.getD i false = false; simp [hlt, hli]) v u hSu (waited_of hR') (fun a' w' => ∃ x, a' = (aF v).put o.dst x ∧ (S w' ∧ G i u w' ∧ R (fun k => listed.getD k false) i x w')) (fun x w' hx => ⟨x, rfl, hx⟩)
        rw [← wanted_same hl] at h
        unfold step0
        simp only [ho]
        split
        · rename_i hw
          rw [if_pos hw] at h
          exact wp_moved (exec_same (fun cs b => Region.noSelect_spec hf.sel i o cs b ho) hl).symm hsize h (fun x w' hx => next x w' hx)
        · rename_i hw
          rw [if_neg hw] at h
          obtain ⟨x, e, hx⟩ := h
          rw [put_same e hsize]
          exact next x u hx
  refine key _ _ _ _ (fun _ => undef) (by simp) (by simp) ?_ hS ?_
  · refine ⟨rfl, rfl, fun t _ => ?_⟩
    cases hp : putter ops t with
    | none => rfl
    | some j =>
      obtain ⟨oj, hoj, _⟩ := putter_some hp
      have := (Array.getElem?_eq_some_iff.1 hoj).1
      simp [this]
  · intro j hj h
    simp [hj] at h
theorem region_flatL {id : Nat} {a : Act} {w : World} {Q : Exit → Act → World → Prop} (aF : (Nat → Value) → Act) (S : World → Prop) (G : Nat → World → World → Prop) (R : (Nat → Bool) → Nat → Value → World → Prop)
    (hm : P.follows .mixedOrders = true) (hok : flatOk ops = true) (haF : ∀ v, putsV ops.toList 0 v a = aF v)
    (hstab : ∀ i L j x w w', L i = false → i ≠ j → G i w w' → R L j x w → R (fun k => decide (k = i) || L k) j x w') (hself : ∀ i L x w, L i = false → R L i x w → R (fun k => decide (k = i) || L k) i x w) (hS : S w.drew)
    (hops : FlatOpsL P ops aF S G R ops.toList 0)
    (hext : ∀ L L' j x w, (∀ k, k < ops.size → L k = L' k) → R L j x w → R L' j x w) (hQ : ∀ v w', S w' → holdAll (R fun _ => true) v w' ops.size → Q .normal (aF v) w') : (Code.region id ops true).wp P Q a w :=
  wp_region_any hm (any0_any _ _ _ _ (flatL_core aF S G R hok haF hstab hself hS hops hext hQ))
end
end Go.Proofs.Ytiodfbbgbnbdpaa
