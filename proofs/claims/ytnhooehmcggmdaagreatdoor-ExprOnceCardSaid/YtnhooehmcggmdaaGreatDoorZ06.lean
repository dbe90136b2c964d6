/- Parts of a proof about the given program: XQuo3. -/
import Derived.Lib.Split
import Derived.Lib.CountLaws
import Derived.Test.YtnhooehmcggmdaaGreatDoorZ05
namespace Go.Proofs.YtnhooehmcggmdaaGreatDoor
set_option maxHeartbeats 16000000
set_option linter.unusedVariables false
set_option linter.unusedSimpArgs false
set_option linter.unusedSectionVars false
def Zdr:List UInt8:=[92,42]
def consH (b:UInt8):List (List UInt8)→List (List UInt8)
 | p :: ps=>(b :: p) :: ps
 | []=>[[b]]
theorem Zjt (b:UInt8) (s:List UInt8) (h:Zdr.isPrefixOf (b :: s)=false):Zbx (b :: s)=consH b (Zbx s):=by
 cases s with
 | nil=>rfl
 | cons c r=>
   have hn:¬ (b.toNat=92∧c.toNat=42):=by
    rintro ⟨h1,h2⟩
    have e1:b=92:=UInt8.toNat_inj.1 h1
    have e2:c=42:=UInt8.toNat_inj.1 h2
    subst e1 e2
    simp[Zdr,List.isPrefixOf]at h
   rw[Zbx,if_neg hn]
   cases Zbx (c :: r) <;> rfl
theorem Zoy (b:UInt8) (s:List UInt8) (h:Zdr.isPrefixOf (b :: s)=true):∃ r,b :: s=92 :: 42 :: r∧Zbx (b :: s)=[] :: Zbx r:=by
 cases s with
 | nil=>simp[Zdr,List.isPrefixOf]at h
 | cons c r=>
   have hh:b=92∧c=42:=by
    simp[Zdr,List.isPrefixOf]at h
    exact ⟨h.1.symm,h.2.symm⟩
   obtain ⟨rfl,rfl⟩:=hh
   exact ⟨r,rfl,by rw[Zbx,if_pos ⟨rfl,rfl⟩]⟩
theorem Zty (b:UInt8) (s:List UInt8) (k:Nat) (h:Zdr.isPrefixOf (b :: s)=false):Lib.splitK Zdr 0 k (b :: s)=consH b (Lib.splitK Zdr 0 k s):=by
 cases k with
 | zero=>rfl
 | succ k=>
   unfold Lib.splitK
   have hi:Lib.index (b :: s) Zdr=if Lib.index s Zdr == -1 then -1 else Lib.index s Zdr+1:=by
    show (if Zdr.isPrefixOf (b :: s) then 0 else _)=_
    rw[h]
    rfl
   rw[hi]
   by_cases hm:Lib.index s Zdr=-1
   · simp[hm,consH]
   · have hb:(Lib.index s Zdr == -1)=false:=by simpa using hm
     rw[hb]
     have h0:0≤Lib.index s Zdr:=by
      have:=Lib.index_ge s Zdr
      omega
     have hb2:(Lib.index s Zdr+1 == -1)=false:=by
      have:Lib.index s Zdr+1 ≠ -1:=by omega
      simpa using this
     obtain ⟨i,hi2⟩:=Int.eq_ofNat_of_zero_le h0
     simp only[Bool.false_eq_true,if_false,hb2,hi2,consH,Nat.add_zero]
     have e1:((i:Int)+1).toNat=i+1:=by omega
     rw[e1]
     simp[Zdr]
     omega
theorem Zvs (b:UInt8) {l:List (List UInt8)} (h:l ≠ []):(consH b l).length=l.length:=by
 cases l with
 | nil=>exact absurd rfl h
 | cons p ps=>rfl
theorem Zoz:∀ (n:Nat) (s:List UInt8) (k:Nat),s.length≤n→(Zbx s).length≤k+1→Lib.splitK Zdr 0 k s=Zbx s
 | _,[],k,_,_=>by
   cases k <;> rfl
 | 0,b :: s,k,h,_=>by simp at h
 | n+1,b :: s,k,hl,hk=>by
   cases hp:Zdr.isPrefixOf (b :: s) with
   | false=>
     rw[Zty b s k hp,Zjt b s hp]
     rw[Zjt b s hp,Zvs b (Zgm s)]at hk
     rw[Zoz n s k (by simp at hl;omega) hk]
   | true=>
     obtain ⟨r,e,e2⟩:=Zoy b s hp
     rw[e2]at hk ⊢
     have hr:r.length≤n:=by
      have:=congrArg List.length e
      simp at this hl
      omega
     cases k with
     | zero=>
       have h1:(Zbx r).length ≠ 0:=fun h=>Zgm r (List.eq_nil_of_length_eq_zero h)
       simp only[List.length_cons]at hk
       omega
     | succ k=>
       have hi:Lib.index (b :: s) Zdr=0:=by
        show (if Zdr.isPrefixOf (b :: s) then (0:Int) else _)=0
        rw[hp]
        rfl
       unfold Lib.splitK
       rw[hi]
       have e3:(b :: s).drop 2=r:=by rw[e];rfl
       show (b :: s).take 0 :: Lib.splitK Zdr 0 k ((b :: s).drop 2)=_
       rw[e3,Zoz n r k hr (by simp only[List.length_cons]at hk;omega)]
       rfl
theorem Zxu (b:UInt8) (s:List UInt8) (h:Zdr.isPrefixOf (b :: s)=false):Lib.index (b :: s) Zdr=if Lib.index s Zdr == -1 then -1 else Lib.index s Zdr+1:=by
 show (if Zdr.isPrefixOf (b :: s) then 0 else _)=_
 rw[h]
 rfl
theorem Zmn:∀ (n:Nat) (s:List UInt8),s.length≤n→(Zbx s).length=Lib.count s Zdr+1
 | _,[],_=>by
   rw[Lib.count_miss (by rfl)]
   rfl
 | 0,b :: s,h=>by simp at h
 | n+1,b :: s,hl=>by
   cases hp:Zdr.isPrefixOf (b :: s) with
   | false=>
     rw[Zjt b s hp,Zvs b (Zgm s),Zmn n s (by simp at hl;omega)]
     congr 1
     have hi:=Zxu b s hp
     by_cases hm:Lib.index s Zdr=-1
     · rw[hm]at hi
       rw[Lib.count_miss hm,Lib.count_miss (by rw[hi];rfl)]
     · have hb:(Lib.index s Zdr == -1)=false:=by simpa using hm
       rw[hb]at hi
       have h0:0≤Lib.index s Zdr:=by
        have:=Lib.index_ge s Zdr
        omega
       obtain ⟨i,hi2⟩:=Int.eq_ofNat_of_zero_le h0
       have hi3:Lib.index (b :: s) Zdr=((i+1:Nat):Int):=by
        rw[hi,hi2]
        rfl
       rw[Lib.count_hit (by decide) hi2,Lib.count_hit (by decide) hi3]
       rfl
   | true=>
     obtain ⟨r,e,e2⟩:=Zoy b s hp
     have hr:r.length≤n:=by
      have:=congrArg List.length e
      simp at this hl
      omega
     have hi:Lib.index (b :: s) Zdr=((0:Nat):Int):=by
      show (if Zdr.isPrefixOf (b :: s) then (0:Int) else _)=0
      rw[hp]
      rfl
     rw[e2,List.length_cons,Zmn n r hr,Lib.count_hit (by decide) hi]
     have e3:(b :: s).drop (0+Zdr.length)=r:=by rw[e];rfl
     rw[e3]
     omega
theorem split_star (s:ByteArray):(Lib.splitB ⟨#[92,42]⟩ 0 (Lib.countB s ⟨#[92,42]⟩) s).map (·.data.toList)=Zbx s.data.toList:=by
 rw[Lib.splitB_data]
 exact Zoz _ _ _ (Nat.le_refl _) (Nat.le_of_eq (Zmn _ _ (Nat.le_refl _)))
end Go.Proofs.YtnhooehmcggmdaaGreatDoor
