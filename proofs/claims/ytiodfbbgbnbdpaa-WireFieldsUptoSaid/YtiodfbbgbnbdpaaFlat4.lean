/- As XFlat3; an operation knows that those on which it waits have been carried out. -/
import Derived.Test.YtiodfbbgbnbdpaaFlat2
namespace Go.Proofs.Ytiodfbbgbnbdpaa
open Go.RowKit
section
variable {P : Program} {ops : Array Oper}
/-! ### What a value stands for may end with the operation that takes it. -/
def FlatOpT (P : Program) (ops : Array Oper) (aF : (Nat → Value) → Act) (S : (Nat → Bool) → World → Prop) (G : Nat → World → World → Prop) (R : (Nat → Bool) → Nat → Value → World → Prop) (i : Nat) (o : Oper) : Prop :=
  ∀ L : Nat → Bool, L i = false → (∀ p q, L p = true → reach ops ops.size p q = true → L q = true) → (∀ e ∈ o.after.toList, Region.binds .any e = true → L e.on = true) → ∀ (v : Nat → Value) (w : World), S L w → waited (R L) v w o.after.toList → ∀ K : Act → World → Prop, Hid (∀ x w', S (fun k => decide (k = i) || L k) w' ∧ G i w w' ∧ R L i x w' → K ((aF v).put o.dst x) w') →
    if Region.wanted o (yielded ops (aF v).tmps) then o.wp P (aF v) w K (fun _ _ _ => False) else K ((aF v).put o.dst undef) w
def FlatOpsT (P : Program) (ops : Array Oper) (aF : (Nat → Value) → Act) (S : (Nat → Bool) → World → Prop) (G : Nat → World → World → Prop) (R : (Nat → Bool) → Nat → Value → World → Prop) : List Oper → Nat → Prop
  | [], _ => True
  | o :: os, i => FlatOpT P ops aF S G R i o ∧ FlatOpsT P ops aF S G R os (i + 1)
theorem FlatOpsT.get {aF : (Nat → Value) → Act} {S : (Nat → Bool) → World → Prop} {G : Nat → World → World → Prop} {R : (Nat → Bool) → Nat → Value → World → Prop} : ∀ {os : List Oper} {i : Nat}, FlatOpsT P ops aF S G R os i → ∀ {k : Nat} {o : Oper}, os[k]? = some o → FlatOpT P ops aF S G R (i + k) o := by
  intro os
  induction os with
  | nil => intro i _ k o h; simp at h
  | cons x os ih =>
    intro i h k o hk
    cases k with
    | zero => simp at hk; subst hk; exact h.1
    | succ k =>
      rw [List.getElem?_cons_succ] at hk
      have := ih h.2 hk
      rw [show i + (k + 1) = i + 1 + k by omega]
      exact this
theorem flatT_core {a : Act} {w : World} {Q : Exit → Act → World → Prop} (aF : (Nat → Value) → Act) (S : (Nat → Bool) → World → Prop) (G : Nat → World → World → Prop) (R : (Nat → Bool) → Nat → Value → World → Prop)
    (hok : flatOk ops = true) (haF : ∀ v, putsV ops.toList 0 v a = aF v)
    (hstab : ∀ i L j x w w', L i = false → i ≠ j → G i w w' → R L j x w → R (fun k => decide (k = i) || L k) j x w') (hself : ∀ i L x w, L i = false → R L i x w → R (fun k => decide (k = i) || L k) i x w) (hS : S (fun _ => false) w.drew)
    (hops : FlatOpsT P ops aF S G R ops.toList 0)
    (hext : ∀ L L' j x w, (∀ k, k < ops.size → L k = L' k) → R L j x w → R L' j x w) (hextS : ∀ L L' w, (∀ k, k < ops.size → L k = L' k) → S L w → S L' w) (hQ : ∀ v w', S (fun _ => true) w' → holdAll (R fun _ => true) v w' ops.size → Q .normal (aF v) w') : any0 P ops Q ops.size (Array.replicate ops.size false) a w.drew := by
  have hf := flat_of hok
  have key : ∀ (fuel : Nat) (listed : Array Bool) (b : Act) (u : World) (v : Nat → Value), listed.size = ops.size → listed.toList.count false ≤ fuel → PutAt ops (fun j => listed.getD j false) v a b → Closed ops listed → S (fun k => listed.getD k false) u →
      (∀ j, j < ops.size → listed.getD j false = true → R (fun k => listed.getD k false) j (v j) u) → any0 P ops Q fuel listed b u := by
    have hfin : ∀ (listed : Array Bool) (b : Act) (u : World) (v : Nat → Value), (∀ j, j < ops.size → listed.getD j false = true) → PutAt ops (fun j => listed.getD j false) v a b → S (fun k => listed.getD k false) u →
        (∀ j, j < ops.size → listed.getD j false = true → R (fun k => listed.getD k false) j (v j) u) → Q .normal b u := by
      intro listed b u v hall hat hSu hR
      have e := (hat.congr (L' := fun _ => true) (v' := v) hall (fun _ _ _ => rfl)).ext (full_at hf v a)
      rw [e, haF v]
      exact hQ v u (hextS _ _ _ (fun k hk => hall k hk) hSu) (holdAll_of fun j hj => hext _ _ _ _ _ (fun k hk => hall k hk) (hR j hj (hall j hj)))
    intro fuel
    induction fuel with
    | zero =>
      intro listed b u v hsz hc hat hcl hSu hR
      have hall : ∀ j, j < ops.size → listed.getD j false = true := by
        intro j hj
        have h0 := List.count_eq_zero.1 (Nat.le_zero.1 hc)
        cases hx : listed.getD j false with
        | true => rfl
        | false =>
          refine absurd ?_ h0
          have hlt : j < listed.size := by omega
          have : listed[j] = false := by simpa [hlt] using hx
          rw [← this]
          simp
      refine ⟨?_, hfin listed b u v hall hat hSu hR⟩
      refine List.filter_eq_nil_iff.2 fun i hi => ?_
      have hi2 := List.mem_range.1 hi
      have := hall i hi2
      have hlt : i < listed.size := by omega
      simp [hlt] at this ⊢
      simp [this]
    | succ fuel ih =>
      intro listed b u v hsz hc hat hcl hSu hR
      refine ⟨fun hnil => hfin listed b u v ?_ hat hSu hR, fun i hi => ?_⟩
      · intro j
        induction j using Nat.strongRecOn with
        | _ j ihj =>
          intro hj
          cases hx : listed.getD j false with
          | true => rfl
          | false =>
            exfalso
            have hm2 : j ∈ Region.ready .any ops listed := by
              refine mem_ready.2 ⟨?_, ops[j], by simp [hj], fun e he hb => ?_⟩
              · have hlt : j < listed.size := by omega
                simpa [hlt] using hx
              · have hlt := hf.back (i := j) (by simp [hj]) e he hb
                exact ihj e.on hlt (by omega)
            rw [hnil] at hm2
            cases hm2
      · obtain ⟨hun, o, ho, hdep⟩ := mem_ready.1 hi
        have hio := (Array.getElem?_eq_some_iff.1 ho).1
        have hlt : i < listed.size := by omega
        have hli : listed[i] = false := by simpa [hlt] using hun
        have hfull := full_at hf v a
        rw [haF v] at hfull
        have hl := looks_eq hf hio (fun j h1 h2 => absurd h2 (by omega)) ho hat hfull hdep (fun _ _ _ => rfl)
        have hop := hops.get (k := i) (o := o) (by simpa using ho)
        rw [Nat.zero_add] at hop
        have hL'0 : ∀ k, (listed.setIfInBounds i true).getD k false = (decide (k = i) || listed.getD k false) := fun k => by
          by_cases hki : k = i
          · subst hki; simp [hlt]
          · rw [getD_set_ne false (Ne.symm hki)]; simp [hki]
        have next : ∀ (x : Value) (u' : World), S (fun k => decide (k = i) || listed.getD k false) u' ∧ G i u u' ∧ R (fun k => listed.getD k false) i x u' → any0 P ops Q fuel (listed.setIfInBounds i true) (b.put o.dst x) u' := by
          rintro x u' ⟨hS', hG, hRi⟩
          refine ih _ _ _ (updV v i x) (by simpa using hsz) ?_ (hat.put hf ho x (fun j hj => getD_set_ne false (Ne.symm hj)) (by simp [hlt])) (hcl.set ho hdep) (hextS _ _ _ (fun k _ => (hL'0 k).symm) hS') ?_
          · rw [Array.toList_setIfInBounds, List.count_set (by simpa using hlt)]
            simp only [Array.getElem_toList, hli]
            have : 0 < listed.toList.count false := List.count_pos_iff.2 (by rw [← hli]; simp)
            simp only [BEq.rfl, if_true, show (true == false) = false from rfl, Bool.false_eq_true, if_false, Nat.add_zero]
            omega
          · intro j hj hlj
            have hL' : ∀ k, (listed.setIfInBounds i true).getD k false = (decide (k = i) || listed.getD k false) := fun k => by
              by_cases hki : k = i
              · subst hki; simp [hlt]
              · rw [getD_set_ne false (Ne.symm hki)]; simp [hki]
            have hLi : (fun k => listed.getD k false) i = false := by show listed.getD i false = false; simp [hlt, hli]
            refine hext (fun k => decide (k = i) || listed.getD k false) _ j _ u' (fun k _ => (hL' k).symm) ?_
            by_cases hji : j = i
            · subst hji
              simp only [updV, if_true]
              exact hself _ _ _ _ hLi hRi
            · rw [getD_set_ne false (Ne.symm hji)] at hlj
              simp only [updV, if_neg hji]
              exact hstab i _ j _ _ _ hLi (Ne.symm hji) hG (hR j hj hlj)
        have hR' : ∀ e ∈ o.after.toList, Region.binds .any e = true → R (fun k => listed.getD k false) e.on (v e.on) u := fun e he hb => by
          have he' : e ∈ o.after := by simpa using he
          exact hR e.on (Nat.lt_trans (hf.back ho e he' hb) hio) (hdep e he' hb)
        have hsize : (aF v).tmps.size = b.tmps.size := hfull.2.1.trans hat.2.1.symm
        have hclL : ∀ p q, listed.getD p false = true → reach ops ops.size p q = true → listed.getD q false = true := fun p q hp hq => by
          cases hop : ops[p]? with
          | none => unfold reach at hq; cases hz : ops.size with | zero => rw [hz] at hq; cases hq | succ n => rw [hz] at hq; simp [hop] at hq
          | some o' => exact reach_listed hcl ops.size p q o' hop (hcl p o' hop hp) hq
        have h := hop _ (by show listed.getD i false = false; simp [hlt, hli]) hclL (fun e he hb => hdep e (by simpa using he) hb) v u hSu (waited_of hR') (fun a' w' => ∃ x, a' = (aF v).put o.dst x ∧ (S (fun k => decide (k = i) || listed.getD k false) w' ∧ G i u w' ∧ R (fun k => listed.getD k false) i x w')) (fun x w' hx => ⟨x, rfl, hx⟩)
        rw [← wanted_same hl] at h
        unfold step0
        simp only [ho]
        split
        · rename_i hw
          rw [if_pos hw] at h
          exact wp_moved (exec_same (fun cs b => Region.noSelect_spec hf.sel i o cs b ho) hl).symm hsize h (fun x w' hx => next x w' hx)
        · rename_i hw
          rw [if_neg hw] at h
          obtain ⟨x, e, hx⟩ := h
          rw [put_same e hsize]
          exact next x u hx
  refine key _ _ _ _ (fun _ => undef) (by simp) (by simp) ?_ ?_ (hextS _ _ _ (fun k hk => by simp [hk]) hS) ?_
  · refine ⟨rfl, rfl, fun t _ => ?_⟩
    cases hp : putter ops t with
    | none => rfl
    | some j =>
      obtain ⟨oj, hoj, _⟩ := putter_some hp
      have := (Array.getElem?_eq_some_iff.1 hoj).1
      simp [this]
  · intro i o ho h
    have h9 := (Array.getElem?_eq_some_iff.1 ho).1
    simp [h9] at h
  · intro j hj h
    simp [hj] at h
theorem region_flatT {id : Nat} {a : Act} {w : World} {Q : Exit → Act → World → Prop} (aF : (Nat → Value) → Act) (S : (Nat → Bool) → World → Prop) (G : Nat → World → World → Prop) (R : (Nat → Bool) → Nat → Value → World → Prop)
    (hm : P.follows .mixedOrders = true) (hok : flatOk ops = true) (haF : ∀ v, putsV ops.toList 0 v a = aF v)
    (hstab : ∀ i L j x w w', L i = false → i ≠ j → G i w w' → R L j x w → R (fun k => decide (k = i) || L k) j x w') (hself : ∀ i L x w, L i = false → R L i x w → R (fun k => decide (k = i) || L k) i x w) (hS : S (fun _ => false) w.drew)
    (hops : FlatOpsT P ops aF S G R ops.toList 0)
    (hext : ∀ L L' j x w, (∀ k, k < ops.size → L k = L' k) → R L j x w → R L' j x w) (hextS : ∀ L L' w, (∀ k, k < ops.size → L k = L' k) → S L w → S L' w) (hQ : ∀ v w', S (fun _ => true) w' → holdAll (R fun _ => true) v w' ops.size → Q .normal (aF v) w') : (Code.region id ops true).wp P Q a w :=
  wp_region_any hm (any0_any _ _ _ _ (flatT_core aF S G R hok haF hstab hself hS hops hext hextS hQ))
theorem tailT_core {a : Act} {w : World} {Q : Exit → Act → World → Prop} (m : Nat) (aF : (Nat → Value) → Act) (S : (Nat → Bool) → World → Prop) (G : Nat → World → World → Prop) (R : (Nat → Bool) → Nat → Value → World → Prop)
    (hok : flatOkT ops m = true) (ht : tailOk ops m = true) (hmn : m ≤ ops.size) (haF : ∀ v, putsV (ops.toList.take m) 0 v a = aF v)
    (hstab : ∀ i L j x w w', L i = false → i ≠ j → G i w w' → R L j x w → R (fun k => decide (k = i) || L k) j x w') (hself : ∀ i L x w, L i = false → R L i x w → R (fun k => decide (k = i) || L k) i x w) (hS : S (fun _ => false) w.drew)
    (hops : FlatOpsT P ops aF S G R (ops.toList.take m) 0)
    (hext : ∀ L L' j x w, (∀ k, k < ops.size → L k = L' k) → R L j x w → R L' j x w) (hextS : ∀ L L' w, (∀ k, k < ops.size → L k = L' k) → S L w → S L' w)
    (hQ : ∀ v w', S (fun k => decide (k < m)) w' → holdAll (R fun k => decide (k < m)) v w' m → seqOps P ops Q (ops.toList.drop m) (aF v) w') : any0 P ops Q ops.size (Array.replicate ops.size false) a w.drew := by
  have hf := flat_of hok
  have hfull : ∀ v, PutAt ops (fun j => decide (j < m)) v a (aF v) := fun v => by
    have h0 : PutAt ops (fun j => decide (j < 0)) v a a := ⟨rfl, rfl, fun t _ => by
      cases putter ops t <;> simp⟩
    have := putsV_at hf v a (ops.toList.take m) 0 a (fun k hk => by
      rw [List.getElem?_take_of_lt (by simp at hk; omega), Nat.zero_add]
      simp) h0
    rw [haF v] at this
    have e : 0 + (ops.toList.take m).length = m := by simp; omega
    rw [e] at this
    exact this
  have key : ∀ (fuel : Nat) (listed : Array Bool) (b : Act) (u : World) (v : Nat → Value), listed.size = ops.size → Closed ops listed → (∀ j, m ≤ j → j < ops.size → listed.getD j false = false) → ops.size ≤ fuel + listed.toList.count true → PutAt ops (fun j => listed.getD j false) v a b → S (fun k => listed.getD k false) u →
      (∀ j, j < ops.size → listed.getD j false = true → R (fun k => listed.getD k false) j (v j) u) → any0 P ops Q fuel listed b u := by
    intro fuel
    induction fuel with
    | zero =>
      intro listed b u v hsz hc htl hct hat hSu hR
      have hall : ∀ j, j < ops.size → listed.getD j false = true := by
        intro j hj
        have h1 : listed.toList.count true = listed.toList.length := Nat.le_antisymm List.count_le_length (by rw [Array.length_toList, hsz]; omega)
        have hlt : j < listed.size := by omega
        have := List.count_eq_length.1 h1 listed[j] (by simp)
        simp [hlt, ← this]
      have hmn' : m = ops.size := by
        rcases Nat.lt_or_ge m ops.size with h | h
        · have h1 := htl m (Nat.le_refl _) h
          rw [hall m h] at h1
          cases h1
        · omega
      have e := (hat.congr (L' := fun j => decide (j < m)) (v' := v) (fun j hj => by rw [hall j hj]; simp; omega) (fun _ _ _ => rfl)).ext (hfull v)
      rw [e]
      exact seq_any ht hf _ m 0 listed _ u (Nat.le_refl _) hmn rfl ⟨hsz, fun j hj => by rw [hall j hj]; simp; omega⟩ hc (by omega) (hQ v u (hextS _ _ _ (fun k hk => by rw [hall k hk]; simp; omega) hSu) (holdAll_of fun j hj => hext _ _ _ _ _ (fun k hk => by rw [hall k hk]; simp; omega) (hR j (by omega) (hall j (by omega)))))
    | succ fuel ih =>
      intro listed b u v hsz hc htl hct hat hSu hR
      by_cases hall : ∀ j, j < m → listed.getD j false = true
      · have hl : ∀ j, j < ops.size → listed.getD j false = decide (j < m) := fun j hj => by
          by_cases hjm : j < m
          · rw [hall j hjm]; simp [hjm]
          · rw [htl j (by omega) hj]; simp [hjm]
        have e := (hat.congr (L' := fun j => decide (j < m)) (v' := v) hl (fun _ _ _ => rfl)).ext (hfull v)
        rw [e]
        refine seq_any ht hf _ m _ listed _ u (Nat.le_refl _) hmn rfl ⟨hsz, hl⟩ hc ?_ (hQ v u (hextS _ _ _ (fun k hk => hl k hk) hSu) (holdAll_of fun j hj => hext _ _ _ _ _ (fun k hk => hl k hk) (hR j (by omega) (hall j hj))))
        have h1 : listed.toList.count true ≤ m := by
          rw [← List.take_append_drop m listed.toList, List.count_append]
          have h2 : (listed.toList.drop m).count true = 0 := List.count_eq_zero.2 fun hmem => by
            obtain ⟨j, hj⟩ := List.mem_iff_getElem?.1 hmem
            rw [List.getElem?_drop] at hj
            have hlt : m + j < listed.size := by
              rcases Nat.lt_or_ge (m + j) listed.size with h | h
              · exact h
              · rw [List.getElem?_eq_none (by simpa using h)] at hj; cases hj
            have h3 := htl (m + j) (by omega) (by omega)
            simp [hlt] at h3 hj
            rw [h3] at hj
            cases hj
          have h4 : (listed.toList.take m).count true ≤ m := Nat.le_trans List.count_le_length (by simp; omega)
          omega
        omega
      · have hready : ∀ i ∈ Region.ready .any ops listed, i < m := by
          intro i hi
          rcases Nat.lt_or_ge i m with h | h
          · exact h
          · exfalso
            obtain ⟨_, oi, hoi, hdep⟩ := mem_ready.1 hi
            have hio := (Array.getElem?_eq_some_iff.1 hoi).1
            have h2 := List.all_eq_true.1 ht i (List.mem_range.2 hio)
            rw [Bool.or_eq_true] at h2
            rcases h2 with h2 | h2
            · have := of_decide_eq_true h2; omega
            · exact hall fun j hj => reach_listed hc _ _ _ oi hoi hdep (List.all_eq_true.1 h2 j (List.mem_range.2 (by omega)))
        refine ⟨fun hnil => absurd ?_ hall, fun i hi => ?_⟩
        · have : ∀ j, j < ops.size → listed.getD j false = true := by
            intro j
            induction j using Nat.strongRecOn with
            | _ j ihj =>
              intro hj
              cases hx : listed.getD j false with
              | true => rfl
              | false =>
                exfalso
                have hm2 : j ∈ Region.ready .any ops listed := by
                  refine mem_ready.2 ⟨?_, ops[j], by simp [hj], fun e he hb => ?_⟩
                  · have hlt : j < listed.size := by omega
                    simpa [hlt] using hx
                  · have hlt := hf.back (i := j) (by simp [hj]) e he hb
                    exact ihj e.on hlt (by omega)
                rw [hnil] at hm2
                cases hm2
          exact fun j hj => this j (by omega)
        · have him := hready i hi
          obtain ⟨hun, o, ho, hdep⟩ := mem_ready.1 hi
          have hio := (Array.getElem?_eq_some_iff.1 ho).1
          have hlt : i < listed.size := by omega
          have hli : listed[i] = false := by simpa [hlt] using hun
          have hl := looks_eq hf him (fun j h1 h2 => ⟨htl j h1 h2, by simp; omega⟩) ho hat (hfull v) hdep (fun e he hb => by have := hf.back ho e he hb; simp; omega)
          have hop := hops.get (k := i) (o := o) (by rw [List.getElem?_take_of_lt him]; simpa using ho)
          rw [Nat.zero_add] at hop
          have hL' : ∀ k, (listed.setIfInBounds i true).getD k false = (decide (k = i) || listed.getD k false) := fun k => by
            by_cases hki : k = i
            · subst hki; simp [hlt]
            · rw [getD_set_ne false (Ne.symm hki)]; simp [hki]
          have hLi : (fun k => listed.getD k false) i = false := by show listed.getD i false = false; simp [hlt, hli]
          have next : ∀ (x : Value) (u' : World), S (fun k => decide (k = i) || listed.getD k false) u' ∧ G i u u' ∧ R (fun k => listed.getD k false) i x u' → any0 P ops Q fuel (listed.setIfInBounds i true) (b.put o.dst x) u' := by
            rintro x u' ⟨hS', hG, hRi⟩
            refine ih _ _ _ (updV v i x) (by simpa using hsz) (hc.set ho hdep) (fun j hj hjn => by rw [getD_set_ne false (by omega)]; exact htl j hj hjn) ?_ (hat.put hf ho x (fun j hj => getD_set_ne false (Ne.symm hj)) (by simp [hlt])) (hextS _ _ _ (fun k _ => (hL' k).symm) hS') ?_
            · rw [Array.toList_setIfInBounds, List.count_set (by simpa using hlt)]
              simp only [Array.getElem_toList, hli]
              simp only [BEq.rfl, if_true, show (false == true) = false from rfl, Bool.false_eq_true, if_false, Nat.sub_zero]
              omega
            · intro j hj hlj
              refine hext (fun k => decide (k = i) || listed.getD k false) _ j _ u' (fun k _ => (hL' k).symm) ?_
              by_cases hji : j = i
              · subst hji
                simp only [updV, if_true]
                exact hself _ _ _ _ hLi hRi
              · rw [getD_set_ne false (Ne.symm hji)] at hlj
                simp only [updV, if_neg hji]
                exact hstab i _ j _ _ _ hLi (Ne.symm hji) hG (hR j hj hlj)
          have hR' : ∀ e ∈ o.after.toList, Region.binds .any e = true → R (fun k => listed.getD k false) e.on (v e.on) u := fun e he hb => by
            have he' : e ∈ o.after := by simpa using he
            exact hR e.on (Nat.lt_trans (hf.back ho e he' hb) hio) (hdep e he' hb)
          have hsize : (aF v).tmps.size = b.tmps.size := (hfull v).2.1.trans hat.2.1.symm
          have hclL : ∀ p q, listed.getD p false = true → reach ops ops.size p q = true → listed.getD q false = true := fun p q hp hq => by
            cases hop : ops[p]? with
            | none => unfold reach at hq; cases hz : ops.size with | zero => rw [hz] at hq; cases hq | succ n => rw [hz] at hq; simp [hop] at hq
            | some o' => exact reach_listed hc ops.size p q o' hop (hc p o' hop hp) hq
          have h := hop _ hLi hclL (fun e he hb => hdep e (by simpa using he) hb) v u hSu (waited_of hR') (fun a' w' => ∃ x, a' = (aF v).put o.dst x ∧ (S (fun k => decide (k = i) || listed.getD k false) w' ∧ G i u w' ∧ R (fun k => listed.getD k false) i x w')) (fun x w' hx => ⟨x, rfl, hx⟩)
          rw [← wanted_same hl] at h
          unfold step0
          simp only [ho]
          split
          · rename_i hw
            rw [if_pos hw] at h
            exact wp_moved (exec_same (fun cs b => Region.noSelect_spec hf.sel i o cs b ho) hl).symm hsize h (fun x w' hx => next x w' hx)
          · rename_i hw
            rw [if_neg hw] at h
            obtain ⟨x, e, hx⟩ := h
            rw [put_same e hsize]
            exact next x u hx
  refine key _ _ _ _ (fun _ => undef) (by simp) ?_ ?_ (by omega) ?_ (hextS _ _ _ (fun k hk => by simp [hk]) hS) ?_
  · intro i o ho h
    have := (Array.getElem?_eq_some_iff.1 ho).1
    simp [this] at h
  · intro j _ hj
    simp [hj]
  · refine ⟨rfl, rfl, fun t _ => ?_⟩
    cases hp : putter ops t with
    | none => rfl
    | some j =>
      obtain ⟨oj, hoj, _⟩ := putter_some hp
      have := (Array.getElem?_eq_some_iff.1 hoj).1
      simp [this]
  · intro j hj h
    simp [hj] at h
theorem region_tailT {id : Nat} {a : Act} {w : World} {Q : Exit → Act → World → Prop} (m : Nat) (aF : (Nat → Value) → Act) (S : (Nat → Bool) → World → Prop) (G : Nat → World → World → Prop) (R : (Nat → Bool) → Nat → Value → World → Prop)
    (hm : P.follows .mixedOrders = true) (hok : flatOkT ops m = true) (ht : tailOk ops m = true) (hmn : m ≤ ops.size) (haF : ∀ v, putsV (ops.toList.take m) 0 v a = aF v)
    (hstab : ∀ i L j x w w', L i = false → i ≠ j → G i w w' → R L j x w → R (fun k => decide (k = i) || L k) j x w') (hself : ∀ i L x w, L i = false → R L i x w → R (fun k => decide (k = i) || L k) i x w) (hS : S (fun _ => false) w.drew)
    (hops : FlatOpsT P ops aF S G R (ops.toList.take m) 0)
    (hext : ∀ L L' j x w, (∀ k, k < ops.size → L k = L' k) → R L j x w → R L' j x w) (hextS : ∀ L L' w, (∀ k, k < ops.size → L k = L' k) → S L w → S L' w)
    (hQ : ∀ v w', S (fun k => decide (k < m)) w' → holdAll (R fun k => decide (k < m)) v w' m → seqOps P ops Q (ops.toList.drop m) (aF v) w') : (Code.region id ops true).wp P Q a w :=
  wp_region_any hm (any0_any _ _ _ _ (tailT_core m aF S G R hok ht hmn haF hstab hself hS hops hext hextS hQ))
end
end Go.Proofs.Ytiodfbbgbnbdpaa
