/- Parts of a proof about the given program: XValFind. -/
import Derived.Shelf.Abstract
import Derived.Deep.Draws
import Derived.Test.YtnhooehmcggmdaaGreatDoorZ09
namespace Go.Proofs.YtnhooehmcggmdaaGreatDoor
set_option maxHeartbeats 16000000
set_option linter.unusedVariables false
set_option linter.unusedSimpArgs false
set_option linter.unusedSectionVars false
open Go.RowKit
theorem any_hit {l:List UInt8} {k:Nat} {x:UInt8} (h:l[k]?=some x) (hx:Zwn x=true):l.any Zwn=true:=List.any_eq_true.2 ⟨x,List.mem_of_getElem? h,hx⟩
theorem any_none {l:List UInt8} (h:∀ j < l.length,∀ x,l[j]?=some x→Zwn x=false):l.any Zwn=false:=by
 rw[List.any_eq_false]
 intro x hx
 obtain ⟨j,hj,e⟩:=List.mem_iff_getElem.1 hx
 rw[h j hj x (by rw[←e];exact List.getElem?_eq_getElem hj)]
 exact Bool.false_ne_true
set_option maxRecDepth 100000 in
theorem idxBytes_w (l:List UInt8) (w:World) (b c:Nat) (hl:l.length≤140737488351232) (hc:∀ j x,l[j]?=some x→w.cell? ⟨b,j,none⟩=some (.int .u8 (x.toNat:Int))) :
 Calls Tryz.prog 117 #[.slice (some ⟨b,0,none⟩) l.length c,.func (.func 82) #[] #[]] w fun e w'=>(∃ i:Int,e=.returned (.int .i64 i)∧decide (0≤i)=l.any Zwn)∧∃ m,w'=w.drewN m:=by
 have hcall:=bad_w
 have eg:∀ args w,(callFunc 82 args).run Tryz.prog w=.ok (.enter 82 args) w:=fun _ _=>by kernel_rfl
 go_enter Tryz.func117,Tryz.ntmps117
 go_wp2
 go_loopw [5,8] (fun _ i wr=>∃ k:Nat,k≤l.length∧i=.int .i64 k∧(∀ j < k,∀ x,l[j]?=some x→Zwn x=false)∧∃ m,wr=w.drewN m) (fun _ i _=>l.length - (intOf i).toNat)
 case atStart=>exact ⟨0,by omega,rfl,fun j hj=>absurd hj (by omega),0,rfl⟩
 case round=>
  obtain ⟨k,hk,rfl,hno,m,rfl⟩:=hrel
  by_cases hlt:k < l.length
  · have hi0:(0:Int)≤(k:Int):=by omega
    have hi1:(k:Int) < (l.length:Int):=by omega
    obtain ⟨x,hx⟩:∃ x,l[k]?=some x:=⟨l[k],List.getElem?_eq_getElem hlt⟩
    have hcell:=hc k x hx
    have HX:=Zai hx
    clear hx hc
    have hx2:=hcall x
    cases hq:Zwn x with
    | true=>
      rw[hq]at hx2
      go_wp2_with (go_at_fn 82;refine (hx2 _).mono ?_;rintro e w1 ⟨rfl,rfl⟩)
      go_ret
      exact ⟨⟨_,rfl,by rw[any_hit HX.out hq];exact decide_eq_true hi0⟩,_,rfl⟩
    | false=>
      rw[hq]at hx2
      go_wp2_with (go_at_fn 82;refine (hx2 _).mono ?_;rintro e w1 ⟨rfl,rfl⟩)
      go_roundw
      case rel=>
       refine ⟨k+1,by omega,by go_num,fun j hj y hy=>?_,_,rfl⟩
       by_cases e:j=k
       · subst e;have hx:=HX.out;rw[hx]at hy;cases hy;exact hq
       · exact hno j (by omega) y hy
      case measure=>simp[intOf];omega
  · have hk2:k=l.length:=by omega
    have hi1:¬ (k:Int) < (l.length:Int):=by omega
    go_wp2_with (go_quiet (fail))
    go_ret
    exact ⟨⟨_,rfl,by rw[any_none (by rw[←hk2];exact hno)];rfl⟩,_,rfl⟩
set_option maxRecDepth 100000 in
theorem hasBytes_w (l:List UInt8) (w:World) (b c:Nat) (hl:l.length≤140737488351232) (hc:∀ j x,l[j]?=some x→w.cell? ⟨b,j,none⟩=some (.int .u8 (x.toNat:Int))) :
 Calls Tryz.prog 81 #[.slice (some ⟨b,0,none⟩) l.length c,.func (.func 82) #[] #[]] w fun e w'=>e=.returned (.bool (l.any Zwn))∧∃ m,w'=w.drewN m:=by
 have h1:=idxBytes_w l w b c hl hc
 obtain ⟨d,hd⟩:=Zaf (l.any Zwn)
 rw[←hd.out]at h1 ⊢
 clear hd
 go_enter Tryz.func81,Tryz.ntmps81
 go_wp2_with fail
 refine h1.mono ?_
 rintro e w1 ⟨⟨i,rfl,hi⟩,m,rfl⟩
 cases d with
 | true=>
   have h0:(0:Int)≤i:=of_decide_eq_true hi
   go_wp2_with fail
   go_ret
   exact ⟨rfl,_,rfl⟩
 | false=>
   have h0:¬ (0:Int)≤i:=of_decide_eq_false hi
   go_wp2_with fail
   go_ret
   exact ⟨rfl,_,rfl⟩
end Go.Proofs.YtnhooehmcggmdaaGreatDoor
