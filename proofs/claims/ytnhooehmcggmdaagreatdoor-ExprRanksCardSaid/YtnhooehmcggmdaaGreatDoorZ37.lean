/- Parts of a proof about the given program: XSeqS. -/
import Derived.RangeFuncNested
import Derived.RangeFuncBound
import Derived.RangeFuncCalls
import Derived.RangeFuncLeaves
import Derived.RangeFuncBox
import Derived.Shelf.Abstract
import Derived.Shelf.RegionOpen
import Derived.OwnWalkIn
import Derived.TacticsInMore
import Derived.LoopNIn
import Derived.LoopIn
import Derived.Sort.QuietIn
import Derived.Maps.AppendAt
import Derived.Test.YtnhooehmcggmdaaGreatDoorZ02
import Derived.Test.YtnhooehmcggmdaaGreatDoorZ07
namespace Go.Proofs.YtnhooehmcggmdaaGreatDoor
set_option maxHeartbeats 16000000
set_option linter.unusedVariables false
set_option linter.unusedSimpArgs false
set_option linter.unusedSectionVars false
open Go.RowKit Go.Shelf
attribute [local go_sem] Oper.semAt_some
def Zoq (f:Nat→ByteArray) (k:Nat):List ByteArray:=(List.range k).map f
theorem Zqs (f:Nat→ByteArray) (k:Nat):Zoq f (k+1)=Zoq f k ++ [f k]:=by simp[Zoq,List.range_succ]
theorem Zno (f:Nat→ByteArray) (k:Nat):(Zoq f k).length=k:=by simp[Zoq]
def atF (ns:List ByteArray) (j:Nat):ByteArray:=ns.getD j ⟨#[]⟩
theorem atF_at (ns:List ByteArray) (j:Nat) (h:j < ns.length):ns[j]?=some (atF ns j):=by
 unfold atF
 rw[List.getD_eq_getElem?_getD,List.getElem?_eq_getElem h]
 rfl
theorem Zqr (ns:List ByteArray) (k:Nat) (hk:k≤ns.length):Zoq (atF ns) k=ns.take k:=by
 apply List.ext_getElem?
 intro i
 by_cases h:i < k
 · rw[List.getElem?_take_of_lt h,atF_at ns i (by omega)]
   simp[Zoq,h]
 · rw[List.getElem?_take_eq_none (by omega),List.getElem?_eq_none (by rw[Zno];omega)]
theorem uptoF_all (ns:List ByteArray):Zoq (atF ns) ns.length=ns:=by rw[Zqr ns _ (Nat.le_refl _),List.take_length]
set_option maxRecDepth 100000 in
theorem vals1_in (n:Nat) (hn:1≤n) (l Bs n₀ b off len cap:Nat) (f:Nat→ByteArray) (hreach:len * 16≤140737488351232) (hb:b < n₀) (J Jx:List ByteArray→World→Prop)
 (hY:∀ pre x W,J pre W→pre.length < len→YieldAt Fence.wide (n - 1) Tryz.prog l #[.string x] W fun e W'=>
   (e=.returned (.bool true)∧J (pre ++ [x]) W'∧Below n₀ W W')∨(e=.returned (.bool false)∧Jx (pre ++ [x]) W'))
 (W:World) (hBs:W.cell? ⟨Bs,0,none⟩=some (.slice (some ⟨b,off,none⟩) len cap)) (hc:∀ j,j < len→W.cell? ⟨b,off+j,none⟩=some (.string (f j))) (h0:J [] W) :
 CallsIn Fence.wide n Tryz.prog 148 #[.func (.yield l) #[] #[],.pointer (some ⟨Bs,0,none⟩)] W fun e W'=>(∃ v,e=.returned v) ∧
  ((∃ ys,ys=Zoq f len∧J ys W')∨(∃ pre,(∃ k,k≤len∧pre=Zoq f k)∧Jx pre W')):=by
 refine callsIn_of_wp Tryz.func148 rfl trivial ?_ rfl
 simp only[Tryz.ntmps148,List.size_toArray,List.length_cons,List.length_nil,Nat.reduceAdd,Nat.reduceSub,Array.replicate_succ,Array.replicate_zero,List.push_toArray,List.append_toArray,List.nil_append,List.cons_append]
 gi_wp2
 gi_loopw [7] (fun i wr=>∃ k:Nat,k≤len∧i=.int .i64 k∧J (Zoq f k) wr∧Below n₀ W wr)
  (fun i _=>len - (intOf i).toNat)
 case atStart=>exact ⟨0,Nat.zero_le _,rfl,h0,Below.refl _ _⟩
 case round=>
  obtain ⟨k,hk,rfl,hJs,hnx⟩:=hrel
  have hcx:k < len→wr.cell? ⟨b,off+k,none⟩=some (.string (f k)):=fun h=>(hnx.cell (p:=⟨b,off+k,none⟩) hb).trans (hc k h)
  by_cases hlt:k < len
  · obtain ⟨fn,tmps,assign,body,hy,hR⟩:=hY _ (f k) wr hJs (by rw[Zno];exact hlt)
    have hcx':=hcx hlt
    gi_wp2
    refine hR.mono ?_
    rintro e W3 (⟨rfl,hJ3,hk3⟩|⟨rfl,hJx3⟩)
    · gi_wp2
      go_roundw
      case rel=>exact ⟨k+1,by omega,by simp,by rw[Zqs];exact hJ3,hnx.trans hk3⟩
      case measure=>simp[intOf];omega
    · gi_wp2
      refine bodyPost_ret (results_none rfl _ _ _) rfl ?_
      exact ⟨⟨_,rfl⟩,.inr ⟨_,⟨k+1,by omega,(Zqs _ _).symm⟩,hJx3⟩⟩
  · obtain rfl:k=len:=by omega
    gi_wp2
    go_end0
    exact ⟨⟨_,rfl⟩,.inl ⟨_,rfl,hJs⟩⟩
set_option maxRecDepth 100000 in
theorem Ztz (n:Nat) (l Bs:Nat) (A:Option Addr) (cap:Nat) (J:List ByteArray→World→Prop) (W:World) (hBs:W.cell? ⟨Bs,0,none⟩=some (.slice A 0 cap)) (h0:J [] W) :
 CallsIn Fence.wide n Tryz.prog 148 #[.func (.yield l) #[] #[],.pointer (some ⟨Bs,0,none⟩)] W fun e W'=>(∃ v,e=.returned v)∧J [] W':=by
 refine callsIn_of_wp Tryz.func148 rfl trivial ?_ rfl
 simp only[Tryz.ntmps148,List.size_toArray,List.length_cons,List.length_nil,Nat.reduceAdd,Nat.reduceSub,Array.replicate_succ,Array.replicate_zero,List.push_toArray,List.append_toArray,List.nil_append,List.cons_append]
 gi_wp2
 gi_loopw [7] (fun i wr=>i=.int .i64 0∧J [] wr) (fun _ _=>0)
 case atStart=>exact ⟨rfl,h0⟩
 case round=>
  obtain ⟨rfl,hJs⟩:=hrel
  gi_wp2
  go_end0
  exact ⟨⟨_,rfl⟩,hJs⟩
theorem vals_w (A:Option Addr) (n c:Nat) (w:World) :
 Calls Tryz.prog 120 #[.slice A n c] w fun e w'=>e=.returned (.func (.func 148) #[] #[.pointer (some ⟨w.heap.size,0,none⟩)])∧w'=w.alloc (.cells #[.slice A n c] 23):=by
 have hmf:∀ fn first cap w,(Instr.makeFunc fn first cap).run Tryz.prog w=.ok (.func fn first cap) w:=fun _ _ _ _=>rfl
 go_enter Tryz.func120,Tryz.ntmps120
 go_wp2
 go_ret
 exact ⟨rfl,rfl⟩
theorem vals_stops (n:Nat) (hn:1≤n) (Bs n₀:Nat) (A:Option Addr) (ns:List ByteArray) (cap:Nat) (hreach:ns.length * 16≤140737488351232) (w:World) (hBs:Bs < w.heap.size) (hn₀:n₀≤w.heap.size) (hA:∀ a,A=some a→a.block < n₀∨ns=[])
 (hc:w.cell? ⟨Bs,0,none⟩=some (.slice A ns.length cap)) (hT:Zib w A ns) :
 SeqStopsK Fence.wide n Tryz.prog 148 #[.pointer (some ⟨Bs,0,none⟩)] (fun x:ByteArray=>#[Value.string x]) (Below n₀) (fun ys=>ys=ns) (fun pre=>pre <+: ns) ns.length w:=fun l J Jx W hW _ _ hY h0=>by
 have hc':=(hW.cell (p:=⟨Bs,0,none⟩) hBs).trans hc
 by_cases hn0:ns=[]
 · subst hn0
   exact (Ztz n l Bs A cap J W hc' h0).mono fun e W' ⟨he,hj⟩=>⟨he,.inl ⟨_,rfl,hj⟩⟩
 · have hT':Zib W A ns:=hT.below hW
   obtain ⟨b,off,rfl,hcs⟩:=hT'.2 (by intro e;exact hn0 (List.map_eq_nil_iff.1 e))
   have hb:b < n₀:=(hA _ rfl).resolve_right hn0
   refine (vals1_in n hn l Bs n₀ b off ns.length cap (atF ns) hreach hb J Jx hY W hc' (fun j hj=>hcs j _ (by
    unfold Zfo
    rw[List.getElem?_map,atF_at ns j hj]
    rfl)) h0).mono ?_
   rintro e W' ⟨he,⟨ys,rfl,hj⟩|⟨pre,⟨k,hk,rfl⟩,hj⟩⟩
   · exact ⟨he,.inl ⟨_,uptoF_all ns,hj⟩⟩
   · exact ⟨he,.inr ⟨_,by rw[Zqr ns k hk];exact List.take_prefix _ _,hj⟩⟩
set_option maxRecDepth 100000 in
theorem appSeq_in (n:Nat) (hn:3≤n) (Bs:Nat) (A:Option Addr) (ns:List ByteArray) (cap:Nat) (hreach:ns.length * 16≤140737488351232) (w:World) (hBs:Bs < w.heap.size) (hA:∀ a,A=some a→a.block < w.heap.size∨ns=[])
 (hc:w.cell? ⟨Bs,0,none⟩=some (.slice A ns.length cap)) (hT:Zib w A ns) :
 CallsIn Fence.wide n Tryz.prog 166 #[.slice none 0 0,.func (.func 148) #[] #[.pointer (some ⟨Bs,0,none⟩)]] w fun e W'=>∃ v,e=.returned v∧W'.ownsRow w.heap.size 9 1 v ns.length (Zfo ns)∧Below w.heap.size w W':=by
 have h1:1≤n:=by omega
 obtain ⟨i0,hi,hz0,hz1,hz2⟩:=info_parts Tryz.info9
 refine callsIn_of_wp_marks Tryz.func166 rfl trivial ?_ rfl
 simp only[Tryz.ntmps166,List.size_toArray,List.length_cons,List.length_nil,Nat.reduceAdd,Nat.reduceSub,Array.replicate_succ,Array.replicate_zero,List.push_toArray,List.append_toArray,List.nil_append,List.cons_append]
 gi_wp2
 have bO:=Boxed.new w 23 (.slice none 0 0)
 have hB0:Below w.heap.size w (w.alloc (.cells #[.slice none 0 0] 23)):=(Below.refl _ w).alloc (Nat.le_refl _) _
 refine wpIn_rangeFunc_ownG rfl h1 (gf:=148) (lb:=#[.pointer (some ⟨Bs,0,none⟩)]) rfl trivial (enters_of Tryz.func148 (by kernel_rfl) rfl)
  (vals_stops (n - 1) (by omega) Bs w.heap.size A ns cap hreach _ (by simp;omega) (by simp) hA ((hB0.cell (p:=⟨Bs,0,none⟩) hBs).trans hc) (hT.below hB0)) belowK_t (belowK_b (by simp)) (Below.refl _ _) (fun _=>rfl)
  (fun pre W=>(∃ v,Boxed W w.heap.size 23 v∧W.ownsRow w.heap.size 9 1 v pre.length (Zfo pre)∧True)∧Below w.heap.size w W)
  (fun _ _ _=>False)
  (OwnFrom.and (Own.from (holdsRow_own w.heap.size w.heap.size 23 9 1 (fun pre=>pre.length) (fun pre=>Zfo pre) (fun _ _=>True)) _) (ownFrom_below (Nat.le_refl _) (by simp)))
  (fun _ _ _ _ _ hs _ _=>hs)
  ⟨⟨_,bO,World.ownsRow_nil _ _ _ _,trivial⟩,hB0⟩
  (fun x=>{ tmps:=#[.slice none 0 0,.func (.func 148) #[] #[.pointer (some ⟨Bs,0,none⟩)],.pointer (some ⟨w.heap.size,0,none⟩),undef,.slice none 0 0,.string x,.func (.func 148) #[] #[.pointer (some ⟨Bs,0,none⟩)],.string x,undef,undef,undef,undef,undef],defers:=[] }) ?assign ?body ?done ?stop
 case assign=>
  intro l x W K hK
  gi_wp2
  exact hK
 case body=>
  rintro l pre x W ⟨⟨v,hv,hrow,-⟩,hB⟩ hlt
  have hc:=hv.cell
  have hm1:pre.length+1≤maxLen:=by simp only[maxLen];omega
  gi_wp2_with (gi_at_builtin;refine wpListIn_append_own _ rfl _ _ 23 rfl w.heap.size 9 i0 (.string ⟨#[]⟩) 1 16 Tryz.underlying23 hi hz0 hz1 hz2 rfl (by decide) _ _ _ rfl (hrow.alloc _) ⟨W.heap.size,0,none⟩ 1 1 [.string x] rfl rfl (cell_one_new _ _ _) (by simp[Value.oneCell']) (by omega) (by omega) (by have:=hB.size;simp;omega) ?_;intro v' w1 hown' hgrow _;obtain ⟨g',cap',rfl⟩:=ownsRow_succ hown';obtain ⟨hv1,hv2,hr2,hk2,hb2⟩:=hv.appended (by decide) hrow hB.size (Nat.le_refl _) hown' hgrow;have hc1:=hv1.cell;have hf1:=hv1.frozen)
  exact ⟨hk2.from _,hb2,⟨_,hv2,by rw[Zxc,List.length_append];exact hr2,trivial⟩,hB.trans hb2⟩
 case done=>
  rintro D ys W hD rfl ⟨⟨v,hv,hrow,-⟩,hB⟩ hK
  have hc:=hv.cell
  gi_wp2
  refine ⟨by simp,.inl ⟨_,_,rfl,run_takeDeferred hK,?_⟩⟩
  exact ⟨_,results_tmp rfl _ _ _,v,rfl,ownsRow_putObj hrow _ hK rfl,hB.trans (belowK_b (w:=w) (Nat.le_refl _) W D _ _ (by simp at hD;omega) hK rfl rfl)⟩
 case stop=>
  rintro D c pre W _ _ h _
  exact h.elim
set_option maxRecDepth 100000 in
theorem collect_in (n:Nat) (hn:4≤n) (Bs:Nat) (A:Option Addr) (ns:List ByteArray) (cap:Nat) (hreach:ns.length * 16≤140737488351232) (w:World) (hBs:Bs < w.heap.size) (hA:∀ a,A=some a→a.block < w.heap.size∨ns=[])
 (hc:w.cell? ⟨Bs,0,none⟩=some (.slice A ns.length cap)) (hT:Zib w A ns) :
 CallsIn Fence.wide n Tryz.prog 146 #[.func (.func 148) #[] #[.pointer (some ⟨Bs,0,none⟩)]] w fun e W'=>∃ v,e=.returned v∧W'.ownsRow w.heap.size 9 1 v ns.length (Zfo ns)∧Below w.heap.size w W':=by
 have h1:1≤n:=by omega
 have hF:Fence.wide.fn 166:=trivial
 have cA:=appSeq_in (n - 1) (by omega) Bs A ns cap hreach w hBs hA hc hT
 refine callsIn_of_wp Tryz.func146 rfl trivial ?_ rfl
 simp only[Tryz.ntmps146,List.size_toArray,List.length_cons,List.length_nil,Nat.reduceAdd,Nat.reduceSub,Array.replicate_succ,Array.replicate_zero,List.push_toArray,List.append_toArray,List.nil_append,List.cons_append]
 gi_wp2_with (gi_at_call 166;refine cA.mono ?_;rintro e w' ⟨v,rfl,hrow,hb⟩)
 go_ret
 exact ⟨v,rfl,hrow,hb⟩
end Go.Proofs.YtnhooehmcggmdaaGreatDoor
