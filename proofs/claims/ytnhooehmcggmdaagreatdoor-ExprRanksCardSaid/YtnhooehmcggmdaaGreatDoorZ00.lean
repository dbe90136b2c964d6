/- Parts of a proof about the given program: XNames. -/
import Derived.Lib.SplitLaws
import Derived.Lib.ValidU
namespace Go.Proofs.YtnhooehmcggmdaaGreatDoor
set_option maxHeartbeats 16000000
set_option linter.unusedVariables false
set_option linter.unusedSimpArgs false
set_option linter.unusedSectionVars false
def Zhd (b:UInt8):Bool:=decide (97≤b.toNat∧b.toNat≤122) || decide (65≤b.toNat∧b.toNat≤90) || decide (b.toNat=95)
def Zgz (b:UInt8):Bool:=decide (48≤b.toNat∧b.toNat≤57)
def goLet (b:UInt8):Bool:=decide (97≤(b ||| 32).toNat∧(b ||| 32).toNat≤122) || decide (b.toNat=95)
set_option maxRecDepth 100000 in
theorem goLet_fin:∀ n:Fin 256,goLet (UInt8.ofNat n.val)=Zhd (UInt8.ofNat n.val):=by decide
theorem goLet_eq (b:UInt8):goLet b=Zhd b:=by
 have h:=goLet_fin ⟨b.toNat,b.toNat_lt⟩
 have e:UInt8.ofNat b.toNat=b:=by simp
 simp only[e]at h
 exact h
def Zix:List (List UInt8):=
 [[116,114,117,101],[102,97,108,115,101],[105,102],[116,104,101,110],[101,108,115,101],[105,110],[104,97,115],[105,115],[108,105,107,101],[112,101,114,109,105,116],[102,111,114,98,105,100],[119,104,101,110],[117,110,108,101,115,115],[112,114,105,110,99,105,112,97,108],[97,99,116,105,111,110],[114,101,115,111,117,114,99,101],[99,111,110,116,101,120,116],[101,110,116,105,116,121],[97,112,112,108,105,101,115,84,111]]
def Zcu (l:List UInt8):Bool:=!l.isEmpty && decide (l.length≤64) && !Zgz (l.headD 0) && l.all (fun b=>Zhd b || Zgz b) && !Zix.contains l
def pcs:List UInt8→List UInt8→List (List UInt8)
 | acc,[]=>[acc]
 | acc,[b]=>[acc ++ [b]]
 | acc,b :: c :: r=>if b=58∧c=58 then acc :: pcs [] r else pcs (acc ++ [b]) (c :: r)
def Zmp:List UInt8:=[58,58]
theorem pcs_hit (acc r:List UInt8):pcs acc (58 :: 58 :: r)=acc :: pcs [] r:=by
 rw[pcs]
 exact if_pos ⟨rfl,rfl⟩
theorem pcs_miss (acc l:List UInt8) (b:UInt8) (h:Zmp.isPrefixOf (b :: l)=false):pcs acc (b :: l)=pcs (acc ++ [b]) l:=by
 match l,h with
 | [],_=>rw[pcs,pcs]
 | c :: r,h=>
   rw[pcs,if_neg]
   rintro ⟨rfl,rfl⟩
   simp[Zmp,List.isPrefixOf]at h
theorem Zsl (acc:List UInt8):pcs acc []=[acc]:=by rw[pcs]
theorem pcs_eq (l:List UInt8):∀ acc,pcs acc l=if Lib.index l Zmp=-1 then [acc ++ l] else (acc ++ l.take (Lib.index l Zmp).toNat) :: pcs [] (l.drop ((Lib.index l Zmp).toNat+2)):=by
 induction l with
 | nil=>intro acc;rw[Zsl];simp[Lib.index,Zmp]
 | cons b l ih=>
   intro acc
   have hi:Lib.index (b :: l) Zmp=if Zmp.isPrefixOf (b :: l) then 0 else if Lib.index l Zmp == -1 then -1 else Lib.index l Zmp+1:=rfl
   cases hp:Zmp.isPrefixOf (b :: l) with
   | true=>
     rw[hp]at hi
     rw[hi]
     match l,hp with
     | c :: r,hp=>
       simp[Zmp,List.isPrefixOf]at hp
       obtain ⟨rfl,rfl⟩:=hp
       rw[pcs_hit]
       simp
     | [],hp=>simp[Zmp,List.isPrefixOf]at hp
   | false=>
     rw[hp]at hi
     rw[pcs_miss _ _ _ hp,ih,hi]
     have hge:=Lib.index_ge l Zmp
     by_cases hm:Lib.index l Zmp=-1
     · simp[hm]
     · have hmm:(Lib.index l Zmp == -1)=false:=by simpa using hm
       obtain ⟨i,hi2⟩:∃ i:Nat,Lib.index l Zmp=i:=⟨(Lib.index l Zmp).toNat,by omega⟩
       rw[hi2]at hm hmm ⊢
       have h1:¬ ((i:Int)+1=-1):=by omega
       have h2:((i:Int)+1).toNat=i+1:=by omega
       have h3:¬ ((i:Int)=-1):=by omega
       simp only[Bool.false_eq_true,if_false,hmm,h1,h2,h3,Int.toNat_natCast]
       rw[show i+1+2=(i+2)+1 by omega,List.drop_succ_cons,List.take_succ_cons]
       simp
theorem split_pcs:∀ (n:Nat) (l:List UInt8),l.length≤n→Lib.split l Zmp=pcs [] l:=by
 intro n
 induction n with
 | zero=>
   intro l h
   have:l=[]:=List.eq_nil_of_length_eq_zero (by omega)
   subst this
   rw[Zsl]
   decide
 | succ n ih=>
   intro l h
   rw[pcs_eq l []]
   have hge:=Lib.index_ge l Zmp
   by_cases hm:Lib.index l Zmp=-1
   · rw[if_pos hm]
     unfold Lib.split
     rw[Lib.count_miss hm]
     rfl
   · rw[if_neg hm]
     obtain ⟨i,hi⟩:∃ i:Nat,Lib.index l Zmp=i:=⟨(Lib.index l Zmp).toNat,by omega⟩
     have hc:=Lib.count_hit (s:=l) (sub:=Zmp) (by decide) hi
     have hlt:=Lib.drop_shorter (s:=l) (sub:=Zmp) (by decide) (by rw[hi];simp)
     rw[hi]at hlt
     have e2:((i:Int)).toNat=i:=by omega
     rw[e2]at hlt
     unfold Lib.split
     rw[hc,Nat.add_comm]
     unfold Lib.splitK
     rw[hi,if_neg (by simp),e2]
     have:=ih (l.drop (i+Zmp.length)) (by have:Zmp.length=2:=rfl;omega)
     unfold Lib.split at this
     rw[this]
     simp[Zmp]
def Zhe (l:List UInt8):Bool:=decide (l.length≤64) && (pcs [] l).all Zcu
end Go.Proofs.YtnhooehmcggmdaaGreatDoor
