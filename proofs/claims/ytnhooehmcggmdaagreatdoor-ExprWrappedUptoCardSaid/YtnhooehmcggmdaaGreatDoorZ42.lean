/- Parts of a proof about the given program: XSame8. -/
import Derived.Test.YtnhooehmcggmdaaGreatDoorZ03
import Derived.Test.YtnhooehmcggmdaaGreatDoorZ14
import Derived.Test.YtnhooehmcggmdaaGreatDoorZ21
import Derived.Test.YtnhooehmcggmdaaGreatDoorZ18
namespace Go.Proofs.YtnhooehmcggmdaaGreatDoor
set_option maxHeartbeats 16000000
set_option linter.unusedVariables false
set_option linter.unusedSimpArgs false
set_option linter.unusedSectionVars false
open Go.RowKit
theorem Znk {w w':World} {a:Addr} {v:Value} (h:w.cell? a=some v) (hb:Below w.heap.size w w'):w'.cell? a=some v:=by
 rw[hb.cell (World.block_lt_of_cell? w a h)]
 exact h
theorem Zzb {w:World} {b o:Nat} {l:List ByteArray} {k:Nat} {x:ByteArray} (h:Zib w (some ⟨b,o,none⟩) l) (hx:l[k]?=some x):w.cell? ⟨b,o+k,none⟩=some (.string x):=by
 obtain ⟨hk,rfl⟩:=List.getElem?_eq_some_iff.1 hx
 obtain ⟨b',o',e,hc⟩:=h.at_ hk
 cases e
 exact hc
theorem Zza {w:World} {A:Option Addr} {l:List ByteArray} {k:Nat} (h:Zib w A l) (hk:k < l.length):∃ b o,A=some ⟨b,o,none⟩:=by
 obtain ⟨b',o',e,hc⟩:=h.at_ hk
 exact ⟨b',o',e⟩
set_option maxRecDepth 100000 in
theorem same_n:∀ (N:Nat) (x:Et),x.ht≤N→∀ (P Q:Nat→Prop) (r q:List Value) (w:World),EAt w P x r→EAt w Q x q →
 Calls Tryz.prog 16 #[.agg r.toArray,.agg q.toArray] w fun e w'=>e=.returned (.bool true)∧Below w.heap.size w w':=by
 intro N
 induction N with
 | zero=>intro x h;cases x;rw[Et.ht]at h;omega
 | succ N ih=>
   intro x hht P Q r q w hx hy
   obtain ⟨k0,z,s,t,ns,l⟩:=x
   rw[Et.ht]at hht
   rw[EAt]at hx hy
   obtain ⟨A,ca,B,cb,rows,rfl,-,hTa,-,⟨hna,-,hla,-⟩,-,hLa,hVa⟩:=hx
   obtain ⟨A',ca',B',cb',rows',rfl,-,hTb,-,-,-,hLb,hVb⟩:=hy
   obtain ⟨k1,k2,hbw⟩:=box2 w (Zav k0 z s t (.slice A ns.length ca) (.slice B l.length cb)) (Zav k0 z s t (.slice A' ns.length ca') (.slice B' l.length cb')) 26
   obtain ⟨W,HW⟩:=Zaf ((w.alloc (.cells (Zav k0 z s t (.slice A ns.length ca) (.slice B l.length cb)).toArray 26)).alloc (.cells (Zav k0 z s t (.slice A' ns.length ca') (.slice B' l.length cb')).toArray 26))
   unfold Zbq at hna hla
   go_enter Tryz.func16,Tryz.ntmps16
   go_upto_region 1 with (go_quiet (fail))
   rw[←HW.out]at k1 k2 hbw ⊢
   clear HW
   have x0:W.cell? ⟨w.heap.size,0,none⟩=some (.int .u8 (k0:Int)):=k1.cell 0
   have x2:W.cell? ⟨w.heap.size,1,none⟩=some (.int .i64 z):=k1.cell 1
   have x3:W.cell? ⟨w.heap.size,2,none⟩=some (.string s):=k1.cell 2
   have x4:W.cell? ⟨w.heap.size,3,none⟩=some (.string t):=k1.cell 3
   have x5:W.cell? ⟨w.heap.size,4,none⟩=some (.slice A ns.length ca):=k1.cell 4
   have x6:W.cell? ⟨w.heap.size,5,none⟩=some (.slice B l.length cb):=k1.cell 5
   have y0:W.cell? ⟨(w.heap.size+1),0,none⟩=some (.int .u8 (k0:Int)):=k2.cell 0
   have y2:W.cell? ⟨(w.heap.size+1),1,none⟩=some (.int .i64 z):=k2.cell 1
   have y3:W.cell? ⟨(w.heap.size+1),2,none⟩=some (.string s):=k2.cell 2
   have y4:W.cell? ⟨(w.heap.size+1),3,none⟩=some (.string t):=k2.cell 3
   have y5:W.cell? ⟨(w.heap.size+1),4,none⟩=some (.slice A' ns.length ca'):=k2.cell 4
   have y6:W.cell? ⟨(w.heap.size+1),5,none⟩=some (.slice B' l.length cb'):=k2.cell 5
   have hss:(s.toList == s.toList)=true:=by simp
   have htt:(t.toList == t.toList)=true:=by simp
   have HTA:=Zai (hTa.below hbw)
   have HTB:=Zai (hTb.below hbw)
   have HLA:=Zai (hLa.below hbw)
   have HLB:=Zai (hLb.below hbw)
   have HVA:=Zai (hVa.below hbw)
   have HVB:=Zai (hVb.below hbw)
   clear hTa hTb hLa hLb hVa hVb
   go_wp2_with (first|(at_builtin;fail))
   clear hss htt x0 x2 x3 x4 y0 y2 y3 y4
   have X5:=Zai x5
   have X6:=Zai x6
   have Y5:=Zai y5
   have Y6:=Zai y6
   have HB:=Zai hbw
   clear x5 x6 y5 y6 hbw k1 k2
   go_loopw [54] (fun i wr=>∃ k:Nat,k≤ns.length∧i=.int .i64 k∧Below W.heap.size W wr) (fun i _=>ns.length - (intOf i).toNat)
   case atStart=>exact ⟨0,by omega,rfl,Below.refl _ _⟩
   case round=>
    obtain ⟨k,hk,rfl,hbw⟩:=hrel
    by_cases hlt:k < ns.length
    · have hi0:(0:Int)≤(k:Int):=by omega
      have hi1:(k:Int) < (ns.length:Int):=by omega
      obtain ⟨ba,oa,rfl⟩:=Zza HTA.out hlt
      obtain ⟨bc,oc,rfl⟩:=Zza HTB.out hlt
      obtain ⟨nx,hnx⟩:∃ x,ns[k]?=some x:=⟨_,List.getElem?_eq_getElem hlt⟩
      have xa:=Znk (Zzb HTA.out hnx) hbw
      have ya:=Znk (Zzb HTB.out hnx) hbw
      have x5:=Znk X5.out hbw
      have y5:=Znk Y5.out hbw
      clear hnx
      have hnn:(nx.toList == nx.toList)=true:=by simp
      go_upto_region 6 with (go_quiet (fail))
      refine Zap (fun _ _ u=>Below wr.heap.size wr u) (fun _ _ _=>True) _ (by kernel_rfl) (by kernel_rfl) (fun v=>by simp only[Zbx,Act.put,List.toList_toArray,Zl2,Zl0,Zl1,Nat.reduceAdd,Nat.zero_add];rfl) (Below.refl _ _).drew (fun _ _ _ _ _ h=>h) ?_
      refine Zaa [] _ (fun L hL hcl v u hS hd K' hK=>by
       simp only[Act.put,Zl2,Zl0,Zl1]at hK
       go_simp
       exact hK.out _ ⟨hS,trivial⟩) (by kernel_rfl) (j:=1) rfl ?_
      refine Zaa [0] _ (fun L hL hcl v u hS hd K' hK=>by
       simp only[Zal,Zak,eqv,Zl3,Zl4,Nat.reduceSub]at hd
       simp only[Act.put,Zl2,Zl0,Zl1]at hK
       try simp only[hd]at hK
       have c0:=Znk x5 hS
       go_simp
       exact hK.out _ ⟨hS,trivial⟩) (by kernel_rfl) (j:=2) rfl ?_
      refine Zaa [] _ (fun L hL hcl v u hS hd K' hK=>by
       simp only[Act.put,Zl2,Zl0,Zl1]at hK
       go_simp
       exact hK.out _ ⟨hS,trivial⟩) (by kernel_rfl) (j:=3) rfl ?_
      refine Zaa [1,2] _ (fun L hL hcl v u hS hd K' hK=>by
       simp only[Zal,Zak,eqv,Zl3,Zl4,Nat.reduceSub]at hd
       simp only[Act.put,Zl2,Zl0,Zl1]at hK
       try simp only[hd]at hK
       go_simp
       exact hK.out _ ⟨hS,trivial⟩) (by kernel_rfl) (j:=4) rfl ?_
      refine Zaa [3] _ (fun L hL hcl v u hS hd K' hK=>by
       simp only[Zal,Zak,eqv,Zl3,Zl4,Nat.reduceSub]at hd
       simp only[Act.put,Zl2,Zl0,Zl1]at hK
       try simp only[hd]at hK
       have c0:=Znk xa hS
       go_simp
       exact hK.out _ ⟨hS,trivial⟩) (by kernel_rfl) (j:=5) rfl ?_
      refine Zaa [] _ (fun L hL hcl v u hS hd K' hK=>by
       simp only[Act.put,Zl2,Zl0,Zl1]at hK
       go_simp
       exact hK.out _ ⟨hS,trivial⟩) (by kernel_rfl) (j:=6) rfl ?_
      refine Zaa [5] _ (fun L hL hcl v u hS hd K' hK=>by
       simp only[Zal,Zak,eqv,Zl3,Zl4,Nat.reduceSub]at hd
       simp only[Act.put,Zl2,Zl0,Zl1]at hK
       try simp only[hd]at hK
       have c0:=Znk y5 hS
       go_simp
       exact hK.out _ ⟨hS,trivial⟩) (by kernel_rfl) (j:=7) rfl ?_
      refine Zaa [] _ (fun L hL hcl v u hS hd K' hK=>by
       simp only[Act.put,Zl2,Zl0,Zl1]at hK
       go_simp
       exact hK.out _ ⟨hS,trivial⟩) (by kernel_rfl) (j:=8) rfl ?_
      refine Zaa [6,7] _ (fun L hL hcl v u hS hd K' hK=>by
       simp only[Zal,Zak,eqv,Zl3,Zl4,Nat.reduceSub]at hd
       simp only[Act.put,Zl2,Zl0,Zl1]at hK
       try simp only[hd]at hK
       go_simp
       exact hK.out _ ⟨hS,trivial⟩) (by kernel_rfl) (j:=9) rfl ?_
      refine Zaa [8] _ (fun L hL hcl v u hS hd K' hK=>by
       simp only[Zal,Zak,eqv,Zl3,Zl4,Nat.reduceSub]at hd
       simp only[Act.put,Zl2,Zl0,Zl1]at hK
       try simp only[hd]at hK
       have c0:=Znk ya hS
       go_simp
       exact hK.out _ ⟨hS,trivial⟩) (by kernel_rfl) (j:=10) rfl ?_
      refine Zaa [4,9] _ (fun L hL hcl v u hS hd K' hK=>by
       simp only[Zal,Zak,eqv,Zl3,Zl4,Nat.reduceSub]at hd
       simp only[Act.put,Zl2,Zl0,Zl1]at hK
       try simp only[hd]at hK
       go_simp
       exact hK.out _ ⟨hS,trivial⟩) (by kernel_rfl) (j:=11) rfl ?_
      refine Zau [10] (by decide) ?_
      rintro v u hS hR
      simp only[Zal,Zak,eqv,Zl3,Zl4,Nat.reduceSub]at hR
      have hbw:=bt hbw hS
      simp only[hR]
      clear hR
      go_wp2_with (go_quiet (fail))
      go_roundw
      case rel=>exact ⟨k+1,by omega,by go_num,hbw⟩
      case measure=>simp[intOf];omega
    · have hi1:¬ (k:Int) < (ns.length:Int):=by omega
      have x6:=Znk X6.out hbw
      clear hlt
      go_wp2_with (first|(at_builtin;fail))
      clear x6 hi1 hk
      obtain ⟨W1,hW1⟩:=Zaf wr
      have HB1:=Zai hbw
      clear hbw
      go_loopw [72] (fun i wr=>∃ k:Nat,k≤l.length∧i=.int .i64 k∧Below W.heap.size W wr) (fun i _=>l.length - (intOf i).toNat)
      case atStart=>exact ⟨0,by omega,rfl,HB1.out⟩
      case round=>
       obtain ⟨i,hi,rfl,hbw⟩:=hrel
       by_cases hlt:i < l.length
       · have hi0:(0:Int)≤(i:Int):=by omega
         have hi1:(i:Int) < (l.length:Int):=by omega
         obtain ⟨x,hx⟩:∃ x,l[i]?=some x:=⟨_,List.getElem?_eq_getElem hlt⟩
         have hva:=HVA.out
         have hvb:=HVB.out
         obtain ⟨r,hr,hvr⟩:=(Zbm hva).2 i x hx
         obtain ⟨q,hq,hvq⟩:=(Zbm hvb).2 i x hx
         have hne:∀ {P:Nat→Prop} {rows:List (List Value)},Zdz W P l rows→rows.flatten ≠ []:=fun hv h0=>by
          have h9:=Zci hv
          rw[h0]at h9
          simp only[List.length_nil]at h9
          omega
         have hla2:=HLA.out
         have hlb2:=HLB.out
         obtain ⟨ba,oa,rfl,-⟩:=hla2.2 (hne hva)
         obtain ⟨bc,oc,rfl,-⟩:=hlb2.2 (hne hvb)
         have hloadA0:=Zdt hla2 (Zbl hva) hr
         have hloadB0:=Zdt hlb2 (Zbl hvb) hq
         have hcall0:∀ u,Below W.heap.size W u→Calls Tryz.prog 16 #[.agg r.toArray,.agg q.toArray] u fun e w'=>e=.returned (.bool true)∧Below u.heap.size u w':=fun u hu=>ih x (by have:=Et.ht_mem (List.mem_of_getElem? hx);omega) _ _ r q u (hvr.below hu) (hvq.below hu)
         obtain ⟨kk,nn,ss,tt,ms,pp⟩:=x
         rw[EAt]at hvr hvq
         obtain ⟨A1,c1,B1,d1,-,rfl,-⟩:=hvr
         obtain ⟨A2,c2,B2,d2,-,rfl,-⟩:=hvq
         have hloadA:=fun u (hu:Below wr.heap.size wr u)=>Zka hloadA0 (bt hbw hu)
         have hloadB:=fun u (hu:Below wr.heap.size wr u)=>Zka hloadB0 (bt hbw hu)
         have hcall:=fun u hu=>hcall0 u (bt hbw hu)
         have x6:=Znk X6.out hbw
         have y6:=Znk Y6.out hbw
         clear hloadA0 hloadB0 hcall0 hva hvb hla2 hlb2 hr hq hne hx ih
         go_upto_region 12 with (go_quiet (fail))
         refine Zap (fun _ _ u=>Below wr.heap.size wr u) (fun _ _ _=>True) _ (by kernel_rfl) (by kernel_rfl) (fun v=>by simp only[Zbx,Act.put,List.toList_toArray,Zl2,Zl0,Zl1,Nat.reduceAdd,Nat.zero_add];rfl) (Below.refl _ _).drew (fun _ _ _ _ _ h=>h) ?_
         refine Zaa [] _ (fun L hL hcl v u hS hd K' hK=>by
          simp only[Act.put,Zl2,Zl0,Zl1]at hK
          go_simp
          exact hK.out _ ⟨hS,trivial⟩) (by kernel_rfl) (j:=1) rfl ?_
         refine Zaa [0] _ (fun L hL hcl v u hS hd K' hK=>by
          simp only[Zal,Zak,eqv,Zl3,Zl4,Nat.reduceSub]at hd
          simp only[Act.put,Zl2,Zl0,Zl1]at hK
          try simp only[hd]at hK
          have c0:=Znk x6 hS
          go_simp
          exact hK.out _ ⟨hS,trivial⟩) (by kernel_rfl) (j:=2) rfl ?_
         refine Zaa [] _ (fun L hL hcl v u hS hd K' hK=>by
          simp only[Act.put,Zl2,Zl0,Zl1]at hK
          go_simp
          exact hK.out _ ⟨hS,trivial⟩) (by kernel_rfl) (j:=3) rfl ?_
         refine Zaa [1,2] _ (fun L hL hcl v u hS hd K' hK=>by
          simp only[Zal,Zak,eqv,Zl3,Zl4,Nat.reduceSub]at hd
          simp only[Act.put,Zl2,Zl0,Zl1]at hK
          try simp only[hd]at hK
          go_simp
          exact hK.out _ ⟨hS,trivial⟩) (by kernel_rfl) (j:=4) rfl ?_
         refine Zaa [3] _ (fun L hL hcl v u hS hd K' hK=>by
          simp only[Zal,Zak,eqv,Zl3,Zl4,Nat.reduceSub]at hd
          simp only[Act.put,Zl2,Zl0,Zl1]at hK
          try simp only[hd]at hK
          have l0:u.cell? ⟨ba,oa+i * 6,none⟩=some (.int .u8 (kk:Int)):=hloadA u hS 0 _ rfl
          have l1:u.cell? ⟨ba,oa+i * 6+1,none⟩=some (.int .i64 nn):=hloadA u hS 1 _ rfl
          have l2:u.cell? ⟨ba,oa+i * 6+2,none⟩=some (.string ss):=hloadA u hS 2 _ rfl
          have l3:u.cell? ⟨ba,oa+i * 6+3,none⟩=some (.string tt):=hloadA u hS 3 _ rfl
          have l4:u.cell? ⟨ba,oa+i * 6+4,none⟩=some (.slice A1 ms.length c1):=hloadA u hS 4 _ rfl
          have l5:u.cell? ⟨ba,oa+i * 6+5,none⟩=some (.slice B1 pp.length d1):=hloadA u hS 5 _ rfl
          go_simp
          exact hK.out _ ⟨hS,trivial⟩) (by kernel_rfl) (j:=5) rfl ?_
         refine Zaa [] _ (fun L hL hcl v u hS hd K' hK=>by
          simp only[Act.put,Zl2,Zl0,Zl1]at hK
          go_simp
          exact hK.out _ ⟨hS,trivial⟩) (by kernel_rfl) (j:=6) rfl ?_
         refine Zaa [5] _ (fun L hL hcl v u hS hd K' hK=>by
          simp only[Zal,Zak,eqv,Zl3,Zl4,Nat.reduceSub]at hd
          simp only[Act.put,Zl2,Zl0,Zl1]at hK
          try simp only[hd]at hK
          have c0:=Znk y6 hS
          go_simp
          exact hK.out _ ⟨hS,trivial⟩) (by kernel_rfl) (j:=7) rfl ?_
         refine Zaa [] _ (fun L hL hcl v u hS hd K' hK=>by
          simp only[Act.put,Zl2,Zl0,Zl1]at hK
          go_simp
          exact hK.out _ ⟨hS,trivial⟩) (by kernel_rfl) (j:=8) rfl ?_
         refine Zaa [6,7] _ (fun L hL hcl v u hS hd K' hK=>by
          simp only[Zal,Zak,eqv,Zl3,Zl4,Nat.reduceSub]at hd
          simp only[Act.put,Zl2,Zl0,Zl1]at hK
          try simp only[hd]at hK
          go_simp
          exact hK.out _ ⟨hS,trivial⟩) (by kernel_rfl) (j:=9) rfl ?_
         refine Zaa [8] _ (fun L hL hcl v u hS hd K' hK=>by
          simp only[Zal,Zak,eqv,Zl3,Zl4,Nat.reduceSub]at hd
          simp only[Act.put,Zl2,Zl0,Zl1]at hK
          try simp only[hd]at hK
          have l0:u.cell? ⟨bc,oc+i * 6,none⟩=some (.int .u8 (kk:Int)):=hloadB u hS 0 _ rfl
          have l1:u.cell? ⟨bc,oc+i * 6+1,none⟩=some (.int .i64 nn):=hloadB u hS 1 _ rfl
          have l2:u.cell? ⟨bc,oc+i * 6+2,none⟩=some (.string ss):=hloadB u hS 2 _ rfl
          have l3:u.cell? ⟨bc,oc+i * 6+3,none⟩=some (.string tt):=hloadB u hS 3 _ rfl
          have l4:u.cell? ⟨bc,oc+i * 6+4,none⟩=some (.slice A2 ms.length c2):=hloadB u hS 4 _ rfl
          have l5:u.cell? ⟨bc,oc+i * 6+5,none⟩=some (.slice B2 pp.length d2):=hloadB u hS 5 _ rfl
          go_simp
          exact hK.out _ ⟨hS,trivial⟩) (by kernel_rfl) (j:=10) rfl ?_
         refine Zaa [4,9] _ (fun L hL hcl v u hS hd K' hK=>by
          simp only[Zal,Zak,eqv,Zl3,Zl4,Nat.reduceSub]at hd
          simp only[Act.put,Zl2,Zl0,Zl1]at hK
          try simp only[hd]at hK
          go_simp
          refine (hcall u hS).mono ?_
          rintro e w2 ⟨rfl,hb2⟩
          exact hK.out _ ⟨bt hS hb2,trivial⟩) (by kernel_rfl) (j:=11) rfl ?_
         refine Zaa [10] _ (fun L hL hcl v u hS hd K' hK=>by
          simp only[Zal,Zak,eqv,Zl3,Zl4,Nat.reduceSub]at hd
          simp only[Act.put,Zl2,Zl0,Zl1]at hK
          try simp only[hd]at hK
          go_simp
          exact hK.out _ ⟨hS,trivial⟩) (by kernel_rfl) (j:=12) rfl ?_
         refine Zau [11] (by decide) ?_
         rintro v u hS hR
         simp only[Zal,Zak,eqv,Zl3,Zl4,Nat.reduceSub]at hR
         have hbw:=bt hbw hS
         simp only[hR]
         clear hR
         go_wp2_with (go_quiet (fail))
         go_roundw
         case rel=>exact ⟨i+1,by omega,by go_num,hbw⟩
         case measure=>simp[intOf];omega
       · have hi1:¬ (i:Int) < (l.length:Int):=by omega
         go_wp2_with (first|(at_builtin;fail))
         go_ret
         exact ⟨rfl,bt HB.out hbw⟩
theorem Zun {x:Et} {P Q:Nat→Prop} {r q:List Value} {w:World} (hr:EAt w P x r) (hq:EAt w Q x q) :
 Calls Tryz.prog 16 #[.agg r.toArray,.agg q.toArray] w fun e w'=>e=.returned (.bool true)∧Below w.heap.size w w':=same_n x.ht x (Nat.le_refl _) P Q r q w hr hq
end Go.Proofs.YtnhooehmcggmdaaGreatDoor
