/- Parts of a proof about the given program: XQuo3. -/
import Derived.Lib.Split
import Derived.Lib.CountLaws
import Derived.Test.YtnhooehmcggmdaaGreatDoorZ05
namespace Go.Proofs.YtnhooehmcggmdaaGreatDoor
set_option maxHeartbeats 16000000
set_option linter.unusedVariables false
set_option linter.unusedSimpArgs false
set_option linter.unusedSectionVars false
def Zdv:List UInt8:=[92,42]
def consH (b:UInt8):List (List UInt8)→List (List UInt8)
 | p :: ps=>(b :: p) :: ps
 | []=>[[b]]
theorem Zjw (b:UInt8) (s:List UInt8) (h:Zdv.isPrefixOf (b :: s)=false):Zcb (b :: s)=consH b (Zcb s):=by
 cases s with
 | nil=>rfl
 | cons c r=>
   have hn:¬ (b.toNat=92∧c.toNat=42):=by
    rintro ⟨h1,h2⟩
    have e1:b=92:=UInt8.toNat_inj.1 h1
    have e2:c=42:=UInt8.toNat_inj.1 h2
    subst e1 e2
    simp[Zdv,List.isPrefixOf]at h
   rw[Zcb,if_neg hn]
   cases Zcb (c :: r) <;> rfl
theorem Zpa (b:UInt8) (s:List UInt8) (h:Zdv.isPrefixOf (b :: s)=true):∃ r,b :: s=92 :: 42 :: r∧Zcb (b :: s)=[] :: Zcb r:=by
 cases s with
 | nil=>simp[Zdv,List.isPrefixOf]at h
 | cons c r=>
   have hh:b=92∧c=42:=by
    simp[Zdv,List.isPrefixOf]at h
    exact ⟨h.1.symm,h.2.symm⟩
   obtain ⟨rfl,rfl⟩:=hh
   exact ⟨r,rfl,by rw[Zcb,if_pos ⟨rfl,rfl⟩]⟩
theorem Zug (b:UInt8) (s:List UInt8) (k:Nat) (h:Zdv.isPrefixOf (b :: s)=false):Lib.splitK Zdv 0 k (b :: s)=consH b (Lib.splitK Zdv 0 k s):=by
 cases k with
 | zero=>rfl
 | succ k=>
   unfold Lib.splitK
   have hi:Lib.index (b :: s) Zdv=if Lib.index s Zdv == -1 then -1 else Lib.index s Zdv+1:=by
    show (if Zdv.isPrefixOf (b :: s) then 0 else _)=_
    rw[h]
    rfl
   rw[hi]
   by_cases hm:Lib.index s Zdv=-1
   · simp[hm,consH]
   · have hb:(Lib.index s Zdv == -1)=false:=by simpa using hm
     rw[hb]
     have h0:0≤Lib.index s Zdv:=by
      have:=Lib.index_ge s Zdv
      omega
     have hb2:(Lib.index s Zdv+1 == -1)=false:=by
      have:Lib.index s Zdv+1 ≠ -1:=by omega
      simpa using this
     obtain ⟨i,hi2⟩:=Int.eq_ofNat_of_zero_le h0
     simp only[Bool.false_eq_true,if_false,hb2,hi2,consH,Nat.add_zero]
     have e1:((i:Int)+1).toNat=i+1:=by omega
     rw[e1]
     simp[Zdv]
     omega
theorem Zwc (b:UInt8) {l:List (List UInt8)} (h:l ≠ []):(consH b l).length=l.length:=by
 cases l with
 | nil=>exact absurd rfl h
 | cons p ps=>rfl
theorem Zpb:∀ (n:Nat) (s:List UInt8) (k:Nat),s.length≤n→(Zcb s).length≤k+1→Lib.splitK Zdv 0 k s=Zcb s
 | _,[],k,_,_=>by
   cases k <;> rfl
 | 0,b :: s,k,h,_=>by simp at h
 | n+1,b :: s,k,hl,hk=>by
   cases hp:Zdv.isPrefixOf (b :: s) with
   | false=>
     rw[Zug b s k hp,Zjw b s hp]
     rw[Zjw b s hp,Zwc b (Zgo s)]at hk
     rw[Zpb n s k (by simp at hl;omega) hk]
   | true=>
     obtain ⟨r,e,e2⟩:=Zpa b s hp
     rw[e2]at hk ⊢
     have hr:r.length≤n:=by
      have:=congrArg List.length e
      simp at this hl
      omega
     cases k with
     | zero=>
       have h1:(Zcb r).length ≠ 0:=fun h=>Zgo r (List.eq_nil_of_length_eq_zero h)
       simp only[List.length_cons]at hk
       omega
     | succ k=>
       have hi:Lib.index (b :: s) Zdv=0:=by
        show (if Zdv.isPrefixOf (b :: s) then (0:Int) else _)=0
        rw[hp]
        rfl
       unfold Lib.splitK
       rw[hi]
       have e3:(b :: s).drop 2=r:=by rw[e];rfl
       show (b :: s).take 0 :: Lib.splitK Zdv 0 k ((b :: s).drop 2)=_
       rw[e3,Zpb n r k hr (by simp only[List.length_cons]at hk;omega)]
       rfl
theorem Zyd (b:UInt8) (s:List UInt8) (h:Zdv.isPrefixOf (b :: s)=false):Lib.index (b :: s) Zdv=if Lib.index s Zdv == -1 then -1 else Lib.index s Zdv+1:=by
 show (if Zdv.isPrefixOf (b :: s) then 0 else _)=_
 rw[h]
 rfl
theorem Zms:∀ (n:Nat) (s:List UInt8),s.length≤n→(Zcb s).length=Lib.count s Zdv+1
 | _,[],_=>by
   rw[Lib.count_miss (by rfl)]
   rfl
 | 0,b :: s,h=>by simp at h
 | n+1,b :: s,hl=>by
   cases hp:Zdv.isPrefixOf (b :: s) with
   | false=>
     rw[Zjw b s hp,Zwc b (Zgo s),Zms n s (by simp at hl;omega)]
     congr 1
     have hi:=Zyd b s hp
     by_cases hm:Lib.index s Zdv=-1
     · rw[hm]at hi
       rw[Lib.count_miss hm,Lib.count_miss (by rw[hi];rfl)]
     · have hb:(Lib.index s Zdv == -1)=false:=by simpa using hm
       rw[hb]at hi
       have h0:0≤Lib.index s Zdv:=by
        have:=Lib.index_ge s Zdv
        omega
       obtain ⟨i,hi2⟩:=Int.eq_ofNat_of_zero_le h0
       have hi3:Lib.index (b :: s) Zdv=((i+1:Nat):Int):=by
        rw[hi,hi2]
        rfl
       rw[Lib.count_hit (by decide) hi2,Lib.count_hit (by decide) hi3]
       rfl
   | true=>
     obtain ⟨r,e,e2⟩:=Zpa b s hp
     have hr:r.length≤n:=by
      have:=congrArg List.length e
      simp at this hl
      omega
     have hi:Lib.index (b :: s) Zdv=((0:Nat):Int):=by
      show (if Zdv.isPrefixOf (b :: s) then (0:Int) else _)=0
      rw[hp]
      rfl
     rw[e2,List.length_cons,Zms n r hr,Lib.count_hit (by decide) hi]
     have e3:(b :: s).drop (0+Zdv.length)=r:=by rw[e];rfl
     rw[e3]
     omega
theorem split_star (s:ByteArray):(Lib.splitB ⟨#[92,42]⟩ 0 (Lib.countB s ⟨#[92,42]⟩) s).map (·.data.toList)=Zcb s.data.toList:=by
 rw[Lib.splitB_data]
 exact Zpb _ _ _ (Nat.le_refl _) (Nat.le_of_eq (Zms _ _ (Nat.le_refl _)))
end Go.Proofs.YtnhooehmcggmdaaGreatDoor
