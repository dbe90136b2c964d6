/- Parts of a proof about the given program: XPanT. -/
import Derived.Test.YtnhooehmcggmdaaGreatDoorZ18
namespace Go.Proofs.YtnhooehmcggmdaaGreatDoor
set_option maxHeartbeats 16000000
set_option linter.unusedVariables false
set_option linter.unusedSimpArgs false
set_option linter.unusedSectionVars false
open Go.RowKit
section
variable {P:Program} {ops:Array Oper} {X:Exit→World→Prop} {Q:Exit→Act→World→Prop}
theorem Zxb {a:Act} {w:World} (hX:∀ e b w,b.defers=a.defers→X e w→Q e b w) (m:Nat) (aF:(Nat→Value)→Act) (S:(Nat→Bool)→(Nat→Value)→World→Prop) (G:Nat→World→World→Prop) (R:(Nat→Bool)→Nat→Value→World→Prop)
 (hok:Zpv ops m=true) (ht:tailOk ops m=true) (hmn:m≤ops.size) (haF:∀ v,Zbx (ops.toList.take m) 0 v a=aF v)
 (hstab:∀ i L j x w w',L i=false→i ≠ j→G i w w'→R L j x w→R (fun k=>decide (k=i) || L k) j x w') (hself:∀ i L x w,L i=false→R L i x w→R (fun k=>decide (k=i) || L k) i x w) (hS:S (fun _=>false) (fun _=>undef) w)
 (hops:Zds X P ops aF S G R (ops.toList.take m) 0)
 (hext:∀ L L' j x w,(∀ k,k < ops.size→L k=L' k)→R L j x w→R L' j x w) (hextS:∀ L L' v w,(∀ k,k < ops.size→L k=L' k)→S L v w→S L' v w)
 (hQ:∀ v w',S (fun k=>decide (k < m)) v w'→Zdj (R fun k=>decide (k < m)) v w' m→Znr P ops Q (ops.toList.drop m) (aF v) w'):any0 P ops Q ops.size (Array.replicate ops.size false) a w:=by
 have hf:=Zng hok
 have hfull:∀ v,Zic ops (fun j=>decide (j < m)) v a (aF v):=fun v=>by
  have h0:Zic ops (fun j=>decide (j < 0)) v a a:=⟨rfl,rfl,fun t _=>by
   cases Zis ops t <;> simp⟩
  have:=Zzs hf v a (ops.toList.take m) 0 a (fun k hk=>by
   rw[List.getElem?_take_of_lt (by simp at hk;omega),Nat.zero_add]
   simp) h0
  rw[haF v]at this
  have e:0+(ops.toList.take m).length=m:=by simp;omega
  rw[e]at this
  exact this
 have key:∀ (fuel:Nat) (listed:Array Bool) (b:Act) (u:World) (v:Nat→Value),listed.size=ops.size→Znv ops listed→(∀ j,m≤j→j < ops.size→listed.getD j false=false)→ops.size≤fuel+listed.toList.count true→Zic ops (fun j=>listed.getD j false) v a b→S (fun k=>listed.getD k false) v u →
  (∀ j,j < ops.size→listed.getD j false=true→R (fun k=>listed.getD k false) j (v j) u)→any0 P ops Q fuel listed b u:=by
  intro fuel
  induction fuel with
  | zero=>
    intro listed b u v hsz hc htl hct hat hSu hR
    have hall:∀ j,j < ops.size→listed.getD j false=true:=by
     intro j hj
     have h1:listed.toList.count true=listed.toList.length:=Nat.le_antisymm List.count_le_length (by rw[Array.length_toList,hsz];omega)
     have hlt:j < listed.size:=by omega
     have:=List.count_eq_length.1 h1 listed[j] (by simp)
     simp[hlt,←this]
    have hmn':m=ops.size:=by
     rcases Nat.lt_or_ge m ops.size with h|h
     · have h1:=htl m (Nat.le_refl _) h
       rw[hall m h]at h1
       cases h1
     · omega
    have e:=(hat.congr (L':=fun j=>decide (j < m)) (v':=v) (fun j hj=>by rw[hall j hj];simp;omega) (fun _ _ _=>rfl)).ext (hfull v)
    rw[e]
    exact seq_any ht hf _ m 0 listed _ u (Nat.le_refl _) hmn rfl ⟨hsz,fun j hj=>by rw[hall j hj];simp;omega⟩ hc (by omega) (hQ v u (hextS _ _ _ _ (fun k hk=>by rw[hall k hk];simp;omega) hSu) (Ziy fun j hj=>hext _ _ _ _ _ (fun k hk=>by rw[hall k hk];simp;omega) (hR j (by omega) (hall j (by omega)))))
  | succ fuel ih=>
    intro listed b u v hsz hc htl hct hat hSu hR
    by_cases hall:∀ j,j < m→listed.getD j false=true
    · have hl:∀ j,j < ops.size→listed.getD j false=decide (j < m):=fun j hj=>by
       by_cases hjm:j < m
       · rw[hall j hjm];simp[hjm]
       · rw[htl j (by omega) hj];simp[hjm]
      have e:=(hat.congr (L':=fun j=>decide (j < m)) (v':=v) hl (fun _ _ _=>rfl)).ext (hfull v)
      rw[e]
      refine seq_any ht hf _ m _ listed _ u (Nat.le_refl _) hmn rfl ⟨hsz,hl⟩ hc ?_ (hQ v u (hextS _ _ _ _ (fun k hk=>hl k hk) hSu) (Ziy fun j hj=>hext _ _ _ _ _ (fun k hk=>hl k hk) (hR j (by omega) (hall j hj))))
      have h1:listed.toList.count true≤m:=by
       rw[←List.take_append_drop m listed.toList,List.count_append]
       have h2:(listed.toList.drop m).count true=0:=List.count_eq_zero.2 fun hmem=>by
        obtain ⟨j,hj⟩:=List.mem_iff_getElem?.1 hmem
        rw[List.getElem?_drop]at hj
        have hlt:m+j < listed.size:=by
         rcases Nat.lt_or_ge (m+j) listed.size with h|h
         · exact h
         · rw[List.getElem?_eq_none (by simpa using h)]at hj;cases hj
        have h3:=htl (m+j) (by omega) (by omega)
        simp[hlt]at h3 hj
        rw[h3]at hj
        cases hj
       have h4:(listed.toList.take m).count true≤m:=Nat.le_trans List.count_le_length (by simp;omega)
       omega
      omega
    · have hready:∀ i ∈ Region.ready .any ops listed,i < m:=by
       intro i hi
       rcases Nat.lt_or_ge i m with h|h
       · exact h
       · exfalso
         obtain ⟨_,oi,hoi,hdep⟩:=mem_ready.1 hi
         have hio:=(Array.getElem?_eq_some_iff.1 hoi).1
         have h2:=List.all_eq_true.1 ht i (List.mem_range.2 hio)
         rw[Bool.or_eq_true]at h2
         rcases h2 with h2|h2
         · have:=of_decide_eq_true h2;omega
         · exact hall fun j hj=>Zgq hc _ _ _ oi hoi hdep (List.all_eq_true.1 h2 j (List.mem_range.2 (by omega)))
      refine ⟨fun hnil=>absurd ?_ hall,fun i hi=>?_⟩
      · have:∀ j,j < ops.size→listed.getD j false=true:=by
         intro j
         induction j using Nat.strongRecOn with
         | _ j ihj=>
           intro hj
           cases hx:listed.getD j false with
           | true=>rfl
           | false=>
             exfalso
             have hm2:j ∈ Region.ready .any ops listed:=by
              refine mem_ready.2 ⟨?_,ops[j],by simp[hj],fun e he hb=>?_⟩
              · have hlt:j < listed.size:=by omega
                simpa [hlt] using hx
              · have hlt:=hf.back (i:=j) (by simp[hj]) e he hb
                exact ihj e.on hlt (by omega)
             rw[hnil]at hm2
             cases hm2
        exact fun j hj=>this j (by omega)
      · have him:=hready i hi
        obtain ⟨hun,o,ho,hdep⟩:=mem_ready.1 hi
        have hio:=(Array.getElem?_eq_some_iff.1 ho).1
        have hlt:i < listed.size:=by omega
        have hli:listed[i]=false:=by simpa [hlt] using hun
        have hl:=Zsu hf him (fun j h1 h2=>⟨htl j h1 h2,by simp;omega⟩) ho hat (hfull v) hdep (fun e he hb=>by have:=hf.back ho e he hb;simp;omega)
        have hop:=hops.get (k:=i) (o:=o) (by rw[List.getElem?_take_of_lt him];simpa using ho)
        rw[Nat.zero_add]at hop
        have hL':∀ k,(listed.setIfInBounds i true).getD k false=(decide (k=i) || listed.getD k false):=fun k=>by
         by_cases hki:k=i
         · subst hki;simp[hlt]
         · rw[getD_set_ne false (Ne.symm hki)];simp[hki]
        have hLi:(fun k=>listed.getD k false) i=false:=by show listed.getD i false=false;simp[hlt,hli]
        have next:∀ (x:Value) (u':World),S (fun k=>decide (k=i) || listed.getD k false) (Zcq v i x) u'∧G i u u'∧R (fun k=>listed.getD k false) i x u'→any0 P ops Q fuel (listed.setIfInBounds i true) (b.put o.dst x) u':=by
         rintro x u' ⟨hS',hG,hRi⟩
         refine ih _ _ _ (Zcq v i x) (by simpa using hsz) (hc.set ho hdep) (fun j hj hjn=>by rw[getD_set_ne false (by omega)];exact htl j hj hjn) ?_ (hat.put hf ho x (fun j hj=>getD_set_ne false (Ne.symm hj)) (by simp[hlt])) (hextS _ _ _ _ (fun k _=>(hL' k).symm) hS') ?_
         · rw[Array.toList_setIfInBounds,List.count_set (by simpa using hlt)]
           simp only[Array.getElem_toList,hli]
           simp only[BEq.rfl,if_true,show (false == true)=false from rfl,Bool.false_eq_true,if_false,Nat.sub_zero]
           omega
         · intro j hj hlj
           refine hext (fun k=>decide (k=i) || listed.getD k false) _ j _ u' (fun k _=>(hL' k).symm) ?_
           by_cases hji:j=i
           · subst hji
             simp only[Zcq,if_true]
             exact hself _ _ _ _ hLi hRi
           · rw[getD_set_ne false (Ne.symm hji)]at hlj
             simp only[Zcq,if_neg hji]
             exact hstab i _ j _ _ _ hLi (Ne.symm hji) hG (hR j hj hlj)
        have hR':∀ e ∈ o.after.toList,Region.binds .any e=true→R (fun k=>listed.getD k false) e.on (v e.on) u:=fun e he hb=>by
         have he':e ∈ o.after:=by simpa using he
         exact hR e.on (Nat.lt_trans (hf.back ho e he' hb) hio) (hdep e he' hb)
        have hsize:(aF v).tmps.size=b.tmps.size:=(hfull v).2.1.trans hat.2.1.symm
        have hclL:∀ p q,listed.getD p false=true→Zii ops ops.size p q=true→listed.getD q false=true:=fun p q hp hq=>by
         cases hop:ops[p]? with
         | none=>unfold Zii at hq;cases hz:ops.size with|zero=>rw[hz]at hq;cases hq|succ n=>rw[hz]at hq;simp[hop]at hq
         | some o'=>exact Zgq hc ops.size p q o' hop (hc p o' hop hp) hq
        have h:=hop _ hLi hclL v u hSu (Zlq hR') (fun a' w'=>∃ x,a'=(aF v).put o.dst x∧(S (fun k=>decide (k=i) || listed.getD k false) (Zcq v i x) w'∧G i u w'∧R (fun k=>listed.getD k false) i x w')) (fun x w' hx=>⟨x,rfl,hx⟩)
        rw[←Zle hl]at h
        unfold step0
        simp only[ho]
        split
        · rename_i hw
          rw[if_pos hw]at h
          exact Ztw (fun e w h=>hX e b w hat.1 h) (Zpw (fun cs b=>Region.noSelect_spec hf.sel i o cs b ho) hl).symm hsize h (fun x w' hx=>next x w' hx)
        · rename_i hw
          rw[if_neg hw]at h
          obtain ⟨x,e,hx⟩:=h
          rw[Zfv e hsize]
          exact next x u hx
 refine key _ _ _ _ (fun _=>undef) (by simp) ?_ ?_ (by omega) ?_ (hextS _ _ _ _ (fun k hk=>by simp[hk]) hS) ?_
 · intro i o ho h
   have:=(Array.getElem?_eq_some_iff.1 ho).1
   simp[this]at h
 · intro j _ hj
   simp[hj]
 · refine ⟨rfl,rfl,fun t _=>?_⟩
   cases hp:Zis ops t with
   | none=>rfl
   | some j=>
     obtain ⟨oj,hoj,_⟩:=Zeq hp
     have:=(Array.getElem?_eq_some_iff.1 hoj).1
     simp[this]
 · intro j hj h
   simp[hj]at h
def Zmo (X:Exit→World→Prop) (P:Program) (ops:Array Oper) (aF:(Nat→Value)→Act) (S:(Nat→Bool)→(Nat→Value)→World→Prop) (G:Nat→World→World→Prop) (m:Nat) (F:(Nat→Value)→World→Prop):List Oper→Nat→List (Value→World→Prop)→Prop
 | [],i,acc=>∀ v w',S (fun k=>decide (k < m)) v w'→Zdj (Zak acc i) v w' i→F v w'
 | o :: os,i,acc=>∃ Ri:Value→World→Prop,(∀ j x w w',j ≠ i→G j w w'→Ri x w→Ri x w')∧Zku X P ops aF S G (fun _=>Zak (Ri :: acc) (i+1)) i o∧Zmo X P ops aF S G m F os (i+1) (Ri :: acc)
variable {aF:(Nat→Value)→Act} {S:(Nat→Bool)→(Nat→Value)→World→Prop} {G:Nat→World→World→Prop} {m:Nat} {F:(Nat→Value)→World→Prop}
theorem Zte (hmn:m≤ops.size) (hf:Flat ops m):∀ (os:List Oper) (i:Nat) (acc:List (Value→World→Prop)),i≤m→(ops.toList.take m).drop i=os→(∀ k,k < i→∀ j x w w',j ≠ k→G j w w'→Zak acc i k x w→Zak acc i k x w') →
 Zmo X P ops aF S G m F os i acc→∃ all:Nat→Value→World→Prop,(∀ k,k < i→all k=Zak acc i k)∧(∀ k j x w w',k < m→j ≠ k→G j w w'→all k x w→all k x w')∧Zds X P ops aF S G (fun _=>all) os i ∧
  ∀ v w',S (fun k=>decide (k < m)) v w'→Zdj all v w' m→F v w':=by
 intro os
 induction os with
 | nil=>
   intro i acc hi hd hst h
   obtain rfl:m=i:=by
    have:=congrArg List.length hd
    simp at this
    omega
   exact ⟨Zak acc m,fun _ _=>rfl,fun k j x w w' hk=>hst k hk j x w w',trivial,h⟩
 | cons o os ih=>
   intro i acc hi hd hst h
   obtain ⟨Ri,h1,h2,h3⟩:=h
   have hi':i < m:=by
    have:=congrArg List.length hd
    simp at this
    omega
   have ho:ops[i]?=some o:=by
    have:=congrArg (·[0]?) hd
    rw[List.getElem?_drop,Nat.add_zero,List.getElem?_take_of_lt hi',List.getElem?_cons_zero,Array.getElem?_toList]at this
    exact this
   have hd':(ops.toList.take m).drop (i+1)=os:=by
    have:=congrArg (List.drop 1) hd
    simpa [List.drop_drop] using this
   obtain ⟨all,k1,k2,k3,k4⟩:=ih (i+1) (Ri :: acc) (by omega) hd' (fun k hk j x w w' hj hg hr=>by
    rcases Nat.lt_or_ge k i with hki|hki
    · rw[Zff hki]at hr ⊢
      exact hst k hki j x w w' hj hg hr
    · obtain rfl:k=i:=by omega
      rw[Zhg]at hr ⊢
      exact h1 j x w w' hj hg hr) h3
   refine ⟨all,fun k hk=>by rw[k1 k (by omega),Zff hk],k2,⟨Zgk h2 (fun _=>(k1 i (by omega)).symm) (fun _ e he hb=>?_),k3⟩,k4⟩
   have:=hf.back ho e (by simpa using he) hb
   exact (k1 _ (by omega)).symm
theorem flatE_relT (hmn:m≤ops.size) (hf:Flat ops m) (h:Zmo X P ops aF S G m F (ops.toList.take m) 0 []):∃ all:Nat→Value→World→Prop,(∀ i L j x w w',L i=false→i ≠ j→G i w w'→(fun _:Nat→Bool=>all) L j x w→(fun _:Nat→Bool=>all) (fun k=>decide (k=i) || L k) j x w')∧Zds X P ops aF S G (fun _=>all) (ops.toList.take m) 0 ∧
 ∀ v w',S (fun k=>decide (k < m)) v w'→Zdj all v w' m→F v w':=by
 obtain ⟨all,-,h2,h3,h4⟩:=Zte hmn hf (ops.toList.take m) 0 [] (Nat.zero_le _) rfl (fun k hk=>by omega) h
 refine ⟨fun j=>if j < m then all j else fun _ _=>True,?_,?_,?_⟩
 · intro i L j x w w' _ hij hg hr
   by_cases hj:j < m
   · have hr':all j x w:=by have h9:=hr;simp only[if_pos hj]at h9;exact h9
     show (if j < m then all j else fun _ _=>True) x w'
     rw[if_pos hj]
     exact h2 j i x w w' hj hij hg hr'
   · show (if j < m then all j else fun _ _=>True) x w'
     rw[if_neg hj]
     trivial
 · have:∀ (os:List Oper) (i:Nat),(ops.toList.take m).drop i=os→Zds X P ops aF S G (fun _=>all) os i→Zds X P ops aF S G (fun _ j=>if j < m then all j else fun _ _=>True) os i:=by
    intro os
    induction os with
    | nil=>intro i _ _;trivial
    | cons o os ih=>
      intro i hd h
      have hi':i < m:=by
       have:=congrArg List.length hd
       simp at this
       omega
      have ho:ops[i]?=some o:=by
       have:=congrArg (·[0]?) hd
       rw[List.getElem?_drop,Nat.add_zero,List.getElem?_take_of_lt hi',List.getElem?_cons_zero,Array.getElem?_toList]at this
       exact this
      refine ⟨Zgk h.1 (fun _=>by show all i=if i < m then all i else _;rw[if_pos hi']) (fun _ e he hb=>?_),ih (i+1) (by have:=congrArg (List.drop 1) hd;simpa [List.drop_drop] using this) h.2⟩
      have:=hf.back ho e (by simpa using he) hb
      show all e.on=if e.on < m then all e.on else _
      rw[if_pos (by omega)]
   exact this _ 0 rfl h3
 · intro v w' hS hh
   refine h4 v w' hS ?_
   have:∀ n,n≤m→Zdj (fun j=>if j < m then all j else fun _ _=>True) v w' n→Zdj all v w' n:=by
    intro n
    induction n with
    | zero=>intro _ _;trivial
    | succ n ih=>
      intro hn h
      refine ⟨ih (by omega) h.1,?_⟩
      have h9:(if n < m then all n else fun _ _=>True) (v n) w':=h.2
      rw[if_pos (by omega)]at h9
      exact h9
   exact this _ (Nat.le_refl _) hh
theorem Zuu {id:Nat} {a:Act} {w:World} (X:Exit→World→Prop) (hX:∀ e b w,b.defers=a.defers→X e w→Q e b w) (m:Nat) (S:(Nat→Bool)→(Nat→Value)→World→Prop) (G:Nat→World→World→Prop) (aF:(Nat→Value)→Act)
 (hm:P.follows .mixedOrders=true) (hok:Zpv ops m=true) (ht:tailOk ops m=true) (hmn:m≤ops.size) (haF:∀ v,Zbx (ops.toList.take m) 0 v a=aF v) (hS:S (fun _=>false) (fun _=>undef) w.drew)
 (hextS:∀ L L' v w,(∀ k,k < ops.size→L k=L' k)→S L v w→S L' v w) (h:Zmo X P ops aF S G m (fun v w'=>Znr P ops Q (ops.toList.drop m) (aF v) w') (ops.toList.take m) 0 []):(Code.region id ops true).wp P Q a w:=by
 obtain ⟨all,h2,h3,h4⟩:=flatE_relT hmn (Zng hok) h
 refine wp_region_any hm (Zkt _ _ _ _ ?_)
 exact Zxb hX m aF S G (fun _=>all) hok ht hmn haF h2 (fun _ _ _ _ _ h=>h) hS h3 (fun _ _ _ _ _ _ h=>h) hextS h4
theorem flatT_end (Zim:List Nat) {i:Nat} {acc:List (Value→World→Prop)} (hb:(Zim.all fun j=>decide (j < i))=true) (h:∀ v w',S (fun k=>decide (k < m)) v w'→Zal acc i v w' Zim→F v w'):Zmo X P ops aF S G m F [] i acc:=
 fun v w' hS hh=>h v w' hS (Zik fun j hj=>Zkq hh j (by simpa using List.all_eq_true.1 hb j hj))
theorem Ziz (Zim:List Nat) {o:Oper} {os:List Oper} {i:Nat} {acc:List (Value→World→Prop)} (x:Value)
 (h:∀ L:Nat→Bool,L i=false→(∀ p q,L p=true→Zii ops ops.size p q=true→L q=true)→∀ (v:Nat→Value) (w:World),S L v w→Zal acc i v w Zim→∀ K:Act→World→Prop,
   Hid (∀ w',S (fun k=>decide (k=i) || L k) (Zcq v i x) w'∧G i w w'→K ((aF v).put o.dst x) w')→if Region.wanted o (yielded ops (aF v).tmps) then o.wp P (aF v) w K (fun e _ w'=>X e w') else K ((aF v).put o.dst undef) w)
 (hb:(Zim.all fun j=>decide (j < i) && o.after.any fun e=>Region.binds .any e && e.on == j)=true)
 {j:Nat} (hj:j=i+1) (hn:Zmo X P ops aF S G m F os j (eqv x :: acc)):Zmo X P ops aF S G m F (o :: os) i acc:=by
 subst hj
 refine ⟨eqv x,fun _ _ _ _ _ _ h=>h,?_,hn⟩
 intro L h1 h2 v w hS hw K hK
 refine h L h1 h2 v w hS (Zik fun j hj=>?_) K (fun w' hx=>Hid.out hK x w' ⟨hx.1,hx.2,?_⟩)
 · have h3:=List.all_eq_true.1 hb j hj
   rw[Bool.and_eq_true,←Array.any_toList,List.any_eq_true]at h3
   obtain ⟨h4,e,he,h5⟩:=h3
   rw[Bool.and_eq_true]at h5
   have h6:=Zgb hw e he h5.1
   have h7:e.on=j:=eq_of_beq h5.2
   rw[h7]at h6
   have h8:Zak (eqv x :: acc) (i+1) j (v j) w:=h6
   rw[Zff (by simpa using h4)]at h8
   exact h8
 · show Zak (eqv x :: acc) (i+1) i x w'
   rw[Zhg]
   rfl
theorem Zvt (Zim:List Nat) {o:Oper} {os:List Oper} {i:Nat} {acc:List (Value→World→Prop)} (R:Value→World→Prop) (hst:∀ j x w w',j ≠ i→G j w w'→R x w→R x w')
 (h:∀ L:Nat→Bool,L i=false→(∀ p q,L p=true→Zii ops ops.size p q=true→L q=true)→∀ (v:Nat→Value) (w:World),S L v w→Zal acc i v w Zim→∀ K:Act→World→Prop,
   Hid (∀ x w',S (fun k=>decide (k=i) || L k) (Zcq v i x) w'∧G i w w'∧R x w'→K ((aF v).put o.dst x) w')→if Region.wanted o (yielded ops (aF v).tmps) then o.wp P (aF v) w K (fun e _ w'=>X e w') else K ((aF v).put o.dst undef) w)
 (hb:(Zim.all fun j=>decide (j < i) && o.after.any fun e=>Region.binds .any e && e.on == j)=true)
 {j:Nat} (hj:j=i+1) (hn:Zmo X P ops aF S G m F os j (R :: acc)):Zmo X P ops aF S G m F (o :: os) i acc:=by
 subst hj
 refine ⟨R,hst,?_,hn⟩
 intro L h1 h2 v w hS hw K hK
 refine h L h1 h2 v w hS (Zik fun j hj=>?_) K (fun x w' hx=>Hid.out hK x w' ⟨hx.1,hx.2.1,?_⟩)
 · have h3:=List.all_eq_true.1 hb j hj
   rw[Bool.and_eq_true,←Array.any_toList,List.any_eq_true]at h3
   obtain ⟨h4,e,he,h5⟩:=h3
   rw[Bool.and_eq_true]at h5
   have h6:=Zgb hw e he h5.1
   have h7:e.on=j:=eq_of_beq h5.2
   rw[h7]at h6
   have h8:Zak (R :: acc) (i+1) j (v j) w:=h6
   rw[Zff (by simpa using h4)]at h8
   exact h8
 · show Zak (R :: acc) (i+1) i x w'
   rw[Zhg]
   exact hx.2.2
end
end Go.Proofs.YtnhooehmcggmdaaGreatDoor
