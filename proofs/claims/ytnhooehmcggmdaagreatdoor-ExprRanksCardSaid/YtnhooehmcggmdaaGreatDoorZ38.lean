/- Parts of a proof about the given program: XCmp. -/
import Derived.Lib.SlicesCompact
import Derived.Test.YtnhooehmcggmdaaGreatDoorZ02
namespace Go.Proofs.YtnhooehmcggmdaaGreatDoor
set_option maxHeartbeats 16000000
set_option linter.unusedVariables false
set_option linter.unusedSimpArgs false
set_option linter.unusedSectionVars false
theorem keeps_at (d:Array (List UInt8)) (j:Nat) (hj:j+1 < d.size):Lib.keeps d (j+1)=decide (d[j+1] ≠ d[j]):=by
 unfold Lib.keeps
 rw[getElem!_pos d (j+1) hj,show j+1 - 1=j from rfl,getElem!_pos d j (by omega)]
 simp
theorem Ztl (l:List (List UInt8)):(Lib.compact (l.mergeSort fun x y=>decide (x≤y))).length=l.length ↔ l.Nodup:=by
 obtain ⟨s,hs⟩:∃ s,s=l.mergeSort fun x y=>decide (x≤y):=⟨_,rfl⟩
 have hp:s.Perm l:=by rw[hs];exact List.mergeSort_perm _ _
 have hpw:s.Pairwise (fun a b=>a≤b):=by
  rw[hs]
  refine (List.pairwise_mergeSort (le:=fun x y:List UInt8=>decide (x≤y)) (fun a b c h1 h2=>?_) (fun a b=>?_) l).imp (fun h=>of_decide_eq_true h)
  · exact decide_eq_true (List.le_trans (of_decide_eq_true h1) (of_decide_eq_true h2))
  · rw[Bool.or_eq_true,decide_eq_true_eq,decide_eq_true_eq]
    exact List.le_total a b
 rw[←hs,←hp.length_eq,←hp.nodup_iff]
 have hk:∀ (i j:Nat) (hi:i < s.length) (hj:j < s.length),i≤j→s[i]≤s[j]:=fun i j hi hj hij=>by
  rcases Nat.lt_or_ge i j with h|h
  · exact List.pairwise_iff_getElem.1 hpw i j hi hj h
  · obtain rfl:i=j:=by omega
    exact List.le_refl _
 constructor
 · intro h
   have hall:∀ j,j < s.length→Lib.keeps s.toArray j=true:=by
    have h2:((List.range s.length).filter (Lib.keeps s.toArray)).length=(List.range s.length).length:=by
     unfold Lib.compact Lib.compactUpTo at h
     rw[List.length_map]at h
     rw[h,List.length_range]
    have h3:=List.length_filter_eq_length_iff.1 h2
    exact fun j hj=>h3 j (List.mem_range.2 hj)
   refine List.pairwise_iff_getElem.2 fun i j hi hj hij e=>?_
   obtain ⟨k,rfl⟩:∃ k,j=k+1:=⟨j - 1,by omega⟩
   have h4:=hall (k+1) hj
   rw[keeps_at s.toArray k (by simpa using hj)]at h4
   have h5:=of_decide_eq_true h4
   refine h5 ?_
   show s[k+1]=s[k]
   have a:=hk i k hi (by omega) (by omega)
   have b:=hk k (k+1) (by omega) hj (by omega)
   rw[e]at a
   exact List.le_antisymm a b
 · intro h
   rw[Lib.compact_all]
   intro j hj
   cases j with
   | zero=>rfl
   | succ k=>
     rw[keeps_at s.toArray k (by simpa using hj)]
     refine decide_eq_true fun e=>?_
     have h6:=List.pairwise_iff_getElem.1 h k (k+1) (by omega) hj (by omega)
     exact h6 e.symm
end Go.Proofs.YtnhooehmcggmdaaGreatDoor
