/- Parts of a proof about the given program: XCopy8, XCopiesW. -/
import Derived.Maps.AppendAt
import Derived.Test.YtnhooehmcggmdaaGreatDoorZ42
import Derived.Test.YtnhooehmcggmdaaGreatDoorZ07
import Derived.Test.YtnhooehmcggmdaaGreatDoorZ23
import Derived.Test.YtnhooehmcggmdaaGreatDoorZ20
import Derived.Test.YtnhooehmcggmdaaGreatDoorZ36
namespace Go.Proofs.YtnhooehmcggmdaaGreatDoor
set_option maxHeartbeats 16000000
set_option linter.unusedVariables false
set_option linter.unusedSimpArgs false
set_option linter.unusedSectionVars false
open Go.RowKit
theorem own_emptyE (w:World) (t:TypeId) (size:Nat):(w.alloc (.cells #[] t)).ownsRow w.heap.size t size (.slice (some ⟨w.heap.size,0,none⟩) 0 0) 0 []:=
 ⟨by simp,.inr ⟨w.heap.size,0,#[],rfl,Nat.le_refl _,heap_alloc_new w _,Nat.le_refl _,by decide,by simp,by simp⟩⟩
theorem exprInfo8:(Tryz.prog.info? 26).map (fun i=>(i.zero,i.size,i.bytes))=some (some (.agg Zag.toArray),6,96):=by kernel_rfl
theorem Zxs {w:World} {base n size:Nat} {e:TypeId} {v:Value} {xs:List Value} (h:w.ownsRow base e size v n xs):∀ b,v.ownBlock=some b→b < w.heap.size:=by
 intro b hb
 rcases h.2 with ⟨rfl,-⟩|⟨g,cap,cur,rfl,-,hh,-⟩
 · cases hb
 · simp only[Value.ownBlock,Option.some.injEq]at hb
   subst hb
   exact (Array.getElem?_eq_some_iff.1 hh).1
def CopyE (x:Et):Prop:=∀ (P:Nat→Prop) (r:List Value) (w:World),EAt w P x r→Calls Tryz.prog 17 #[.agg r.toArray] w fun e w'=>∃ r',e=.returned (.agg r'.toArray)∧EAt w' (fun b=>w.heap.size≤b∧b < w'.heap.size) x r'∧Below w.heap.size w w'
theorem cell_grown {w w2 w3:World} {v0:Value} (hg:w2.grownBy w3 v0.ownBlock) (hbk:Below w.heap.size w w2) (p:Addr) (v:Value) (hp:p.block < w.heap.size) (hne:v0.ownBlock ≠ some p.block) (hc:w.cell? p=some v):w3.cell? p=some v:=by
 have h1:=hg.block p.block (Nat.lt_of_lt_of_le hp hbk.size) (fun h=>hne h.symm)
 have h2:=hbk.block p.block hp
 unfold World.cell? at hc ⊢
 rw[h1,h2]
 exact hc
set_option maxRecDepth 100000 in
theorem copy_of (x:Et) (hC:∀ o n s t ns l,x=.mk o n s t ns l→∀ y ∈ l,CopyE y):CopyE x:=by
 intro P r w hx
 obtain ⟨o,n,s,t,ns,l⟩:=x
 have hCl:=hC o n s t ns l rfl
 clear hC
 rw[EAt]at hx
 obtain ⟨A,ca,B,cb,rows,rfl,hnum,hT,hnz,⟨hns,-,hls,-⟩,-,hL,hV⟩:=hx
 obtain ⟨i0,hi,hz0,hz1,hz2⟩:=info_parts Tryz.info9
 obtain ⟨j0,hj,hy0,hy1,hy2⟩:=info_parts exprInfo8
 obtain ⟨k1,k2,hbw⟩:=box2 w (Zav o n s t (.slice A ns.length ca) (.slice B l.length cb)) Zag 26
 have hs2:((w.alloc (.cells (Zav o n s t (.slice A ns.length ca) (.slice B l.length cb)).toArray 26)).alloc (.cells Zag.toArray 26)).heap.size=w.heap.size+2:=by
  show ((w.heap.push _).push _).size=_
  simp
 obtain ⟨W,HW⟩:=Zaf ((w.alloc (.cells (Zav o n s t (.slice A ns.length ca) (.slice B l.length cb)).toArray 26)).alloc (.cells Zag.toArray 26))
 have HW2:W=(w.alloc (.cells (Zav o n s t (.slice A ns.length ca) (.slice B l.length cb)).toArray 26)).alloc (.cells #[.int .u8 0,.int .i64 0,.string ⟨#[]⟩,.string ⟨#[]⟩,.slice none 0 0,.slice none 0 0] 26):=HW.out
 have HW3:=Zai HW2
 clear HW2
 have hns16:ns.length * 16≤140737488351232:=hns
 have hls96:l.length * 96≤140737488351232:=hls
 go_enter Tryz.func17,Tryz.ntmps17
 go_upto_region 1 with (go_quiet (fail))
 rw[←HW3.out]
 rw[←HW.out]at k1 k2 hbw hs2
 clear HW HW3
 have hT1:=Zai ((hT.below hbw).alloc (.cells #[] 9))
 have k1a:=k1.alloc (.cells #[] 9)
 have k2a:=k2.alloc (.cells #[] 9)
 have b1a:=bt hbw (Zac W (.cells #[] 9))
 have hown0:(W.alloc (.cells #[] 9)).ownsRow (w.heap.size+2) 9 1 (.slice (some ⟨w.heap.size+2,0,none⟩) 0 0) 0 []:=by
  have:=own_emptyE W 9 1
  rw[hs2]at this
  exact this
 obtain ⟨W1,HW1⟩:=Zaf (W.alloc (.cells #[] 9))
 rw[←HW1.out]at hT1 k1a k2a b1a hown0
 have hW1s:W1.heap.size=w.heap.size+3:=by rw[HW1.out];show (W.heap.push _).size=_;simp[hs2]
 have HE:=HW1.out
 have HE1:=Zai HE.symm
 clear HW1 HE
 have x5:W1.cell? ⟨w.heap.size,4,none⟩=some (.slice A ns.length ca):=k1a.cell 4
 have halloc:W.alloc (.cells #[] 9)=W1:=HE1.out
 go_upto_region 2 with (first
  | (at_builtin
     refine Zin _ rfl (.tmp 6) (.tmp 8) _ rfl (w.heap.size+2) 9 i0 _ 1 16 Tryz.underlying23 hi hz0 hz1 hz2 rfl (by omega) (.slice (some ⟨w.heap.size+2,0,none⟩) 0 0) 0 [] rfl
      hown0 A ns.length ca (Zfo ns) rfl hT1.out (strs_one ns) (by simp only[maxLen];omega) (by omega) (by omega) ?_
     intro v1 w1 hown1 hg1 hat1
     have hlt1:=Zxs hown1
     obtain ⟨A1,c1,rfl,hc1,-,hl1,hA1⟩:=Zek.of_own hown1
     rw[Nat.zero_add,List.nil_append]at hl1
     have k1b:Blk w1 w.heap.size (Zav o n s t (.slice A ns.length ca) (.slice B l.length cb)) 26:=by
      have:=(hg1.block w.heap.size (by omega) (by simp only[Value.ownBlock];intro e;have:=Option.some.inj e;omega))
      exact this.trans k1a
     have k2b:Blk w1 (w.heap.size+1) Zag 26:=by
      have:=(hg1.block (w.heap.size+1) (by omega) (by simp only[Value.ownBlock];intro e;have:=Option.some.inj e;omega))
      exact this.trans k2a
     have b1b:=b1a.grown hg1 (by omega) (by intro j hj;simp only[Value.ownBlock]at hj;have:=Option.some.inj hj;omega)
     have y5:w1.cell? ⟨w.heap.size,4,none⟩=some (.slice A ns.length ca):=k1b.cell 4
     have z5:=k1b.free 4)
  | fail)
 clear hown1
 have k1c:=k1b.set 4 (.slice A1 ns.length c1)
 have k2c:=k2b.far (p:=⟨w.heap.size,4,none⟩) (by show w.heap.size+1 ≠ w.heap.size;omega) (.slice A1 ns.length c1)
 have b1c:=b1b.setCell (p:=⟨w.heap.size,4,none⟩) (Nat.le_refl _) (.slice A1 ns.length c1)
 have hA1':∀ a,A1=some a→w.heap.size+2≤a.block:=hA1
 have hA1u:∀ a,A1=some a→a.block < w1.heap.size:=fun a ha=>hlt1 _ (by rw[ha];rfl)
 have hw1W:w1.heap.size≤(w1.setCell ⟨w.heap.size,4,none⟩ (.slice A1 ns.length c1)).heap.size:=by simp[World.setCell]
 have hl1c:=hl1.far (p:=⟨w.heap.size,4,none⟩) (fun a ha=>by have:=hA1' a ha;show a.block ≠ w.heap.size;omega) (.slice A1 ns.length c1)
 obtain ⟨W2,HW2⟩:=Zaf (w1.setCell ⟨w.heap.size,4,none⟩ (.slice A1 ns.length c1))
 rw[←HW2.out]at k1c k2c b1c hl1c hw1W ⊢
 clear HW2 y5 z5 x5 halloc HE1
 have x6:W2.cell? ⟨w.heap.size,5,none⟩=some (.slice B l.length cb):=k1c.cell 5
 have hW2:w.heap.size+2≤W2.heap.size:=k2c.lt
 have HL:=Zai (hL.below b1c)
 have HV:=Zai (hV.below b1c)
 have HC:=Zai hCl
 have K1:=Zai k1c
 have K2:=Zai k2c
 have B1:=Zai b1c
 have HL1:=Zai hl1c
 obtain ⟨N,hN⟩:=Zaf l.length
 rw[←hN.out]at x6 hls96
 clear hL hV hCl k1c k2c b1c hl1c k1a k2a k1b k2b b1a b1b hT1 hown0 hg1 hat1 hW1s hs2 hT hl1
 clear k1 k2 hbw
 go_wp2_with fail
 clear x6
 go_loopw [3,14] (fun v i wr=>∃ (k:Nat) (rows':List (List Value)),k≤N∧i=.int .i64 k∧wr.ownsRow W2.heap.size 26 6 v k rows'.flatten∧Zdz wr (fun b=>W2.heap.size≤b∧v.ownBlock ≠ some b∧b < wr.heap.size) (l.take k) rows'∧Below W2.heap.size W2 wr) (fun _ i _=>N - (intOf i).toNat)
 case atStart=>exact ⟨0,[],by omega,rfl,World.ownsRow_nil _ _ _ _,by rw[List.take_zero,Zdz],Below.refl _ _⟩
 case round=>
  obtain ⟨k,rows',hk,rfl,hown,hVP,hbw⟩:=hrel
  by_cases hlt:k < N
  · have hi0:(0:Int)≤(k:Int):=by omega
    have hi1:(k:Int) < (N:Int):=by omega
    have hkl:k < l.length:=by rw[←hN.out];exact hlt
    obtain ⟨x,hx⟩:∃ x,l[k]?=some x:=⟨_,List.getElem?_eq_getElem hkl⟩
    obtain ⟨q,hq,hvq⟩:=(Zbm HV.out).2 k x hx
    obtain ⟨gB,oB,rfl,-⟩:=HL.out.2 (fun h0=>by
     have h9:=Zci HV.out
     rw[h0]at h9
     simp only[List.length_nil]at h9
     omega)
    have hrg:=Zbf (Zdt HL.out (Zbl HV.out) hq) hbw
    have hrq:=Zcl (Zcf hvq)
    have k5:=Blk.new wr Zag 26
    have hb5:=Zac wr (.cells Zag.toArray 26)
    obtain ⟨W7,hW7⟩:=Zaf (wr.alloc (.cells Zag.toArray 26))
    have hW7l:Hid (W7=wr.alloc (.cells #[.int .u8 0,.int .i64 0,.string ⟨#[]⟩,.string ⟨#[]⟩,.slice none 0 0,.slice none 0 0] 26)):=hW7
    rw[←hW7.out]at k5 hb5
    have kq:=k5.vrow q
    have hbq:=Zah hb5 (Nat.le_refl _) q.toArray
    obtain ⟨W8,hW8⟩:=Zaf (W7.setRow wr.heap.size q.toArray)
    rw[←hW8.out]at kq hbq
    have hcall:=HC.out x (List.mem_of_getElem? hx) P q W8 (hvq.below (bt hbw hbq))
    clear hW7 hb5
    go_wp2_with (first
     | (at_builtin;fail)
     | refine wpList_load_mid rfl 26 _ rfl gB (oB+k * 6) rfl q _ hrg Tryz.underlying26 rfl (Zqh hrq.1) ?_
     | (rw[←hW7l.out];refine wpList_store_row rfl 26 _ _ rfl _ q.toArray rfl rfl 26 Zag.toArray k5 (kE6 hrq.1) (by simp[hrq.1,Zag,Zav]) (Zas hrq.2) ?_;rw[←hW8.out])
     | refine wpList_load_row rfl 26 _ rfl _ rfl 26 q.toArray (0,0) _ kq Tryz.underlying26 rfl (kE6 hrq.1) ?_)
    refine hcall.mono ?_
    clear hcall
    rintro e w2 ⟨r2,rfl,hv2,hb2⟩
    obtain ⟨o2,n2,s2,t2,A2,m2,c2,B2,q2,d2,hr2⟩:=Zcf hv2
    have h62:=(Zcl (Zcf hv2)).1
    have hone2:=(Zcl (Zcf hv2)).2
    have hown2:=Ziu (Ziu hown hbq) hb2
    have hbw2:=bt (bt hbw hbq) hb2
    have hlies:Zek (w2.alloc (.cells r2.toArray 26)) (some ⟨w2.heap.size,0,none⟩) 1 6 [r2].flatten:=by
     refine ⟨by simp[h62],fun _=>⟨w2.heap.size,0,rfl,fun j v hjv=>?_⟩⟩
     rw[Nat.zero_add]
     simp only[List.flatten_cons,List.flatten_nil,List.append_nil]at hjv
     have hkk:=(Blk.new w2 r2 26).cell j
     rw[hkk,hjv]
    have hoa:=hown2.alloc (.cells r2.toArray 26)
    have hb2a:=Zac w2 (.cells r2.toArray 26)
    have hba:=bt hbw2 hb2a
    have hsa:(w2.alloc (.cells r2.toArray 26)).heap.size=w2.heap.size+1:=Array.size_push _
    have HVP:=Zai hVP
    have HOWN:=Zai hown
    have HV2:=Zai hv2
    obtain ⟨W9,hW9⟩:=Zaf (w2.alloc (.cells r2.toArray 26))
    have hW9l:Hid (W9=w2.alloc (.cells #[.int .u8 (o2:Int),.int .i64 n2,.string s2,.string t2,.slice A2 m2 c2,.slice B2 q2 d2] 26)):=by rw[hr2]at hW9;exact hW9
    rw[←hW9.out]at hlies hoa hb2a hba hsa
    have hagg:Value.agg r2.toArray=.agg #[.int .u8 (o2:Int),.int .i64 n2,.string s2,.string t2,.slice A2 m2 c2,.slice B2 q2 d2]:=by rw[hr2];rfl
    rw[hagg]
    clear hVP hown hv2 hown2 hW7l hW8 k5 hrg hW9 hr2 hagg
    go_wp2_with (first
     | (at_builtin
        rw[←hW9l.out]
        refine Zin _ rfl (.tmp 18) (.tmp 21) _ rfl W2.heap.size 26 j0 _ 6 96 Tryz.underlying24 hj hy0 hy1 hy2 rfl (by omega) u3 k rows'.flatten rfl
         hoa (some ⟨w2.heap.size,0,none⟩) 1 1 [r2].flatten rfl hlies (fun y hy=>hone2 y (by simpa using hy)) (by simp only[maxLen];omega) (by omega) hba.size ?_
        intro v1 w3 hown3 hg3 hat3))
    go_roundw
    case rel=>
     have hlt0:=Zxs HOWN.out
     have hsz1:wr.heap.size≤W8.heap.size:=hbq.size
     have hsz2:W8.heap.size≤w2.heap.size:=hb2.size
     have hsz3:=hg3.size
     have hka:∀ p:Addr,p.block < w2.heap.size→u3.ownBlock ≠ some p.block→∀ v,w2.cell? p=some v→w3.cell? p=some v:=fun p hp hne v hc=>cell_grown hg3 hb2a p v hp hne hc
     have hat:∀ b,b < w2.heap.size→u3.ownBlock ≠ some b→v1.ownBlock ≠ some b:=fun b hb hne h=>by
      rcases hat3 with h3|h3
      · rw[h3]at h;exact hne h
      · rw[h3]at h
        have h4:=Option.some.inj h
        omega
     refine ⟨k+1,rows' ++ [r2],by omega,by go_num,by rw[List.flatten_append];exact hown3,?_,hba.grown hg3 hba.size (fun j hj=>(HOWN.out.lt j hj).1)⟩
     have e:l.take (k+1)=l.take k ++ [x]:=by
      obtain ⟨hk',ek⟩:=List.getElem?_eq_some_iff.1 hx
      rw[List.take_succ_eq_append_getElem hk',ek]
     rw[e]
     refine Zvx (Zjm HVP.out fun y q _ hv=>hv.keep (fun p v hp hc=>?_) fun b hb=>⟨hb.1,hat b (by have:=hb.2.2;omega) hb.2.1,by have:=hb.2.2;omega⟩) (HV2.out.keep (fun p v hp hc=>?_) fun b hb=>⟨by have:=hb.1;have:=hbw.size;omega,hat b hb.2 (fun h=>?_),by have:=hb.2;omega⟩)
     · exact hka p (by have:=hp.2.2;omega) hp.2.1 v (by rw[(bt hbq hb2).cell hp.2.2];exact hc)
     · exact hka p hp.2 (fun h=>by have:=hlt0 _ h;have:=hp.1;omega) v hc
     · have:=hlt0 _ h
       have:=hb.1
       omega
    case measure=>simp[intOf];omega
  · have hi1:¬ (k:Int) < (N:Int):=by omega
    obtain rfl:k=N:=by omega
    have hlt3:=Zxs hown
    have hob:∀ j,u3.ownBlock=some j→W2.heap.size≤j:=fun j hj=>(hown.lt j hj).1
    obtain ⟨A3,c3,rfl,hc3,-,hl3,hA3⟩:=Zek.of_own hown
    have hA3u:∀ a,A3=some a→a.block < wr.heap.size:=fun a ha=>hlt3 _ (by rw[ha];rfl)
    rw[List.take_of_length_le (by rw[hN.out];exact Nat.le_refl _)]at hVP
    have k1d:=K1.out.below hbw
    have k2d:=K2.out.below hbw
    have b1d:=bt B1.out hbw
    have hl1d:=HL1.out.below hbw
    have x6:wr.cell? ⟨w.heap.size,5,none⟩=some (.slice B l.length cb):=k1d.cell 5
    have z6:=k1d.free 5
    clear hown
    go_upto_region 9 with fail
    have k1e:=k1d.set 5 (.slice A3 k c3)
    have k2e:=k2d.far (p:=⟨w.heap.size,5,none⟩) (by show w.heap.size+1 ≠ w.heap.size;omega) (.slice A3 k c3)
    have b1e:=b1d.setCell (p:=⟨w.heap.size,5,none⟩) (Nat.le_refl _) (.slice A3 k c3)
    have hl1e:=hl1d.far (p:=⟨w.heap.size,5,none⟩) (fun a ha=>by have:=hA1' a ha;show a.block ≠ w.heap.size;omega) (.slice A3 k c3)
    have hl3e:=hl3.far (p:=⟨w.heap.size,5,none⟩) (fun a ha=>by have:=hA3 a ha;show a.block ≠ w.heap.size;omega) (.slice A3 k c3)
    have hw3W:wr.heap.size≤(wr.setCell ⟨w.heap.size,5,none⟩ (.slice A3 k c3)).heap.size:=by simp[World.setCell]
    have hv3e:Zdz (wr.setCell ⟨w.heap.size,5,none⟩ (.slice A3 k c3)) (fun b=>W2.heap.size≤b∧b < wr.heap.size) l rows':=Zjm hVP fun x q _ hv=>
     hv.keep (fun p v hp hc=>(World.cell?_setCell_other wr _ p _ (fun e=>by rw[←e]at hp;have:=hp.1;have h9:W2.heap.size≤w.heap.size:=this;omega)).trans hc) fun _ h=>⟨h.1,h.2.2⟩
    obtain ⟨W3,HW3⟩:=Zaf (wr.setCell ⟨w.heap.size,5,none⟩ (.slice A3 k c3))
    rw[←HW3.out]at k1e k2e b1e hl1e hl3e hv3e hw3W ⊢
    clear HW3 x6 z6
    rw[hN.out]at k1e hl3e hc3
    have k1f:Blk W3 w.heap.size (Zav o n s t (.slice A1 ns.length c1) (.slice A3 l.length c3)) 26:=k1e
    go_wp2_with (first
     | refine wpList_load_row rfl 26 _ rfl _ rfl 26 (Zav o n s t (.slice A1 ns.length c1) (.slice A3 l.length c3)).toArray (0,0) _ k1f Tryz.underlying26 rfl (kE6 rfl) ?_
     | refine wpList_store_row rfl 26 _ _ rfl _ (Zav o n s t (.slice A1 ns.length c1) (.slice A3 l.length c3)).toArray rfl rfl 26 Zag.toArray k2e (kE6 rfl) rfl (by kernel_rfl) ?_)
    refine bodyPost_ret (Zfz rfl _ rfl (k2e.vrow (Zav o n s t (.slice A1 ns.length c1) (.slice A3 l.length c3))) rfl) rfl ⟨_,rfl,?_,Zah b1e (by omega) _⟩
    have hkeep:∀ (p:Addr) v,w.heap.size+2≤p.block→W3.cell? p=some v→(W3.setRow (w.heap.size+1) (Zav o n s t (.slice A1 ns.length c1) (.slice A3 l.length c3)).toArray).cell? p=some v:=fun p v hp hc=>by
     unfold World.cell? at hc ⊢
     rw[Zch W3 (w.heap.size+1) p.block _ (by omega)]
     exact hc
    have hsz:(W3.setRow (w.heap.size+1) (Zav o n s t (.slice A1 ns.length c1) (.slice A3 l.length c3)).toArray).heap.size=W3.heap.size:=by simp[World.setRow]
    have hW23:=hbw.size
    rw[EAt]
    refine ⟨A1,c1,A3,c3,rows',rfl,hnum,?_,hnz,⟨hns,by omega,hls,hc3⟩,⟨fun a ha=>?_,fun a ha=>?_⟩,?_,?_⟩
    · exact Zkm (P:=fun b=>w.heap.size+2≤b) hkeep hA1' hl1e
    · have h1:=hA1' a ha
      have h2:=hA1u a ha
      rw[hsz]
      exact ⟨by omega,by omega⟩
    · have h1:=hA3 a ha
      have h2:=hA3u a ha
      rw[hsz]
      exact ⟨by omega,by omega⟩
    · exact Zkm (P:=fun b=>w.heap.size+2≤b) hkeep (fun a ha=>by have:=hA3 a ha;omega) hl3e
    · rw[hsz]
      exact Zjm hv3e fun x q _ hv=>hv.keep (fun p v hp hc=>hkeep p v (by have:=hp.1;omega) hc) (fun b hb=>⟨by have:=hb.1;omega,by have:=hb.2;omega⟩)
theorem copy_n (x:Et):CopyE x:=by
 have:∀ (n:Nat) (x:Et),x.ht≤n→CopyE x:=by
  intro n
  induction n with
  | zero=>intro x h;cases x;rw[Et.ht]at h;omega
  | succ n ih=>
    intro x h
    refine copy_of x fun o m s t ns l e y hy=>ih y ?_
    subst e
    rw[Et.ht]at h
    have:=Et.ht_mem hy
    omega
 exact this x.ht x (Nat.le_refl _)
theorem WrC.put {w:World} {A:Option Addr} {n:Nat} (h:WrC w A n) (p:Addr) (v:Value):WrC (w.setCell p v) A n:=by
 intro a ha
 refine ⟨(h a ha).1,fun j hj=>?_⟩
 obtain ⟨h1,h2⟩:=(h a ha).2 j hj
 refine ⟨?_,by rw[World.frozen?_setCell];exact h2⟩
 by_cases e:p=⟨a.block,a.off+j,none⟩
 · subst e
   rw[World.cell?_setCell_same' _ _ _ h1]
   rfl
 · rw[World.cell?_setCell_other w p ⟨a.block,a.off+j,none⟩ v e]
   exact h1
theorem WrC.belowk {w w':World} {A:Option Addr} {n:Nat} (h:WrC w A n) (hb:Below w.heap.size w w'):WrC w' A n:=by
 intro a ha
 refine ⟨(h a ha).1,fun j hj=>?_⟩
 obtain ⟨h1,h2⟩:=(h a ha).2 j hj
 obtain ⟨v,hv⟩:=Option.isSome_iff_exists.1 h1
 have hlt:=World.block_lt_of_cell? w _ hv
 have hk:=hb.block a.block hlt
 refine ⟨by rw[hb.cell hlt,hv];rfl,?_⟩
 rw[World.frozen?_of_block (a:=⟨a.block,a.off+j,none⟩) hk]
 exact h2
theorem Zus {x:Option Et} {w:World} {base:Nat} {r:List Value} (hex:∀ e,x=some e→EAt w (Nw base w) e r∧WrE w r) (hze:x=none→r=Zag):EAt w (Nw base w) (x.getD (Zbk 0 [])) r∧WrE w r:=by
 cases x with
 | none=>rw[hze rfl];exact ⟨Zoh w _,Zjd w⟩
 | some e=>exact hex e rfl
theorem row_own {w:World} {P:Nat→Prop} {e:Et} {r:List Value} (h:EAt w P e r) (hw:WrE w r):∃ (o:Nat) (n:Int) (s t:ByteArray) (X:Option Addr) (a c:Nat) (Y:Option Addr) (m d:Nat),r=Zav o n s t (.slice X a c) (.slice Y m d) ∧
 (∀ x,X=some x→P x.block)∧(∀ x,Y=some x→P x.block)∧(X=none→a=0)∧(Y=none→m=0)∧WrC w X a∧WrC w Y (m * 6)∧a≤8796093022208∧m≤1466015503701:=by
 obtain ⟨o,n,s,t,ns,l⟩:=e
 rw[EAt]at h
 obtain ⟨A,c,B,d,rows,rfl,_,hT,_,⟨h1,_,h2,_⟩,⟨h5,h5'⟩,hL,hE⟩:=h
 unfold Zbq at h1 h2
 refine ⟨o,n,s,t,A,ns.length,c,B,l.length,d,rfl,h5,h5',fun e=>?_,fun e=>?_,hw.1 A _ c rfl,hw.2 B _ d rfl,by omega,by omega⟩
 · subst e
   cases ns with
   | nil=>rfl
   | cons x ns=>obtain ⟨b,o,e,_⟩:=hT.2 (by simp[Zfo]);cases e
 · subst e
   cases l with
   | nil=>rfl
   | cons x l=>
     have h9:=Zci hE
     obtain ⟨b,o,e,_⟩:=hL.2 (by intro h0;rw[h0]at h9;simp at h9)
     cases e
def SpI (w:World) (base g1:Nat) (r1:List Value) (g2:Nat) (r2:List Value) (E:Et) (X:Option Addr) (a:Nat) (Y:Option Addr) (m:Nat) (wr:World):Prop:=
 Blk wr g1 r1 26∧Blk wr g2 r2 26∧EAt wr (fun b=>base≤b) E r2∧WrC wr X a∧WrC wr Y (m * 6)∧Below w.heap.size w wr
theorem SpI.put {w wr:World} {base g1 g2:Nat} {r1 r2:List Value} {E:Et} {X Y:Option Addr} {a m:Nat} (h:SpI w base g1 r1 g2 r2 E X a Y m wr) (p:Addr) (v:Value) (hp:w.heap.size≤p.block) (h1:p.block < g1) (h2:g1 < g2) (h3:g1 < base):SpI w base g1 r1 g2 r2 E X a Y m (wr.setCell p v):=by
 obtain ⟨k1,k2,k3,k4,k5,k6⟩:=h
 refine ⟨k1.far (by omega) v,k2.far (by omega) v,k3.keep (fun q u hq hc=>?_) (fun b h=>h),k4.put p v,k5.put p v,k6.setCell hp v⟩
 rw[World.cell?_setCell_other wr p q v (fun e=>by rw[e]at h1;omega)]
 exact hc
set_option maxRecDepth 100000 in
theorem Zvw (hC:Zhx) (s:ByteArray) (w:World) (hs:s.size≤140737488351232) (htab:Tb8 w):Calls Tryz.prog 7 #[.string s] w fun e w'=>e=.returned (.bool true)∧Below w.heap.size w w':=by
 have hli:=Zpr hC w htab
 go_enter Tryz.func7,Tryz.ntmps7
 go_upto_region 1 with (first|(at_builtin;fail))
 go_wp2_with (first|(at_builtin;fail))
 refine hli.mono ?_
 clear hli
 rintro e w0 ⟨rfl,hb0⟩
 have hp1:=Zgy hC s w0 hs (htab.below hb0)
 cases hX:Zcp s.data.toList with
 | mk x1 kx=>
 obtain ⟨k1x,a1x⟩:=kx
 rw[hX]at hp1
 go_upto_region 3 with (first|(at_builtin;fail))
 go_wp2_with (first|(at_builtin;fail))
 refine hp1.mono ?_
 clear hp1
 rintro e w1 ⟨⟨v1,rfl,hres1⟩,hba1⟩
 obtain ⟨r1,rfl,h61,h11,hex1,hze1⟩:=Zdm hres1
 clear hres1
 have k01:=Blk.new w1 Zag 26
 have hbc1:=Zac w1 (.cells Zag.toArray 26)
 obtain ⟨A1,hA1⟩:=Zaf (w1.alloc (.cells Zag.toArray 26))
 have hAl1:Hid (A1=w1.alloc (.cells #[.int .u8 0,.int .i64 0,.string ⟨#[]⟩,.string ⟨#[]⟩,.slice none 0 0,.slice none 0 0] 26)):=hA1
 rw[←hA1.out]at k01 hbc1
 have k1:=k01.vrow r1
 have hbd1:=Zah hbc1 (Nat.le_refl _) r1.toArray
 obtain ⟨B1,hB1⟩:=Zaf (A1.setRow w1.heap.size r1.toArray)
 rw[←hB1.out]at k1 hbd1
 have hbB1:Below w.heap.size w B1:=bt (bt hb0 hba1) hbd1
 have hgs1:w.heap.size≤w1.heap.size:=(bt hb0 hba1).size
 clear hA1 hbc1
 obtain ⟨hE1,hW1⟩:=Zus hex1 hze1
 obtain ⟨E,hEe⟩:=Zaf (x1.getD (Zbk 0 []))
 rw[←hEe.out]at hE1
 have hEB:=hE1.below hbd1
 obtain ⟨o1,n1,s1,t1,X1,a1,c1,Y1,m1,d1,hrw1,hXb,hYb,hX0,hY0,hWX,hWY,ha1,hm1⟩:=row_own hE1 hW1
 have HRW1:=Zai hrw1
 clear hrw1
 have hcp:=copy_n E (Nw w0.heap.size w1) r1 B1 hEB
 have hB1s:w1.heap.size < B1.heap.size:=k1.lt
 clear hex1 hze1
 go_upto_region 4 with (first
  | (at_builtin;fail)
  | (rw[←hAl1.out];refine wpList_store_row rfl 26 _ _ rfl _ r1.toArray rfl rfl 26 Zag.toArray k01 (kE6 h61) (by simp[h61,Zag,Zav]) (Zas h11) ?_;rw[←hB1.out]))
 go_wp2_with (first
  | (at_builtin;fail)
  | refine wpList_load_row rfl 26 _ rfl _ rfl 26 r1.toArray (0,0) _ k1 Tryz.underlying26 rfl (kE6 h61) ?_)
 refine hcp.mono ?_
 clear hcp
 rintro e w2 ⟨r2,rfl,hE2,hba2⟩
 obtain ⟨h62,h12⟩:=Zcl (Zcf hE2)
 have k02:=Blk.new w2 Zag 26
 have hbc2:=Zac w2 (.cells Zag.toArray 26)
 obtain ⟨A2,hA2⟩:=Zaf (w2.alloc (.cells Zag.toArray 26))
 have hAl2:Hid (A2=w2.alloc (.cells #[.int .u8 0,.int .i64 0,.string ⟨#[]⟩,.string ⟨#[]⟩,.slice none 0 0,.slice none 0 0] 26)):=hA2
 rw[←hA2.out]at k02 hbc2
 have k2:=k02.vrow r2
 have hbd2:=Zah hbc2 (Nat.le_refl _) r2.toArray
 obtain ⟨B2,hB2⟩:=Zaf (A2.setRow w2.heap.size r2.toArray)
 rw[←hB2.out]at k2 hbd2
 have hbB2:Below w.heap.size w B2:=bt (bt hbB1 hba2) hbd2
 have hsi:SpI w B1.heap.size w1.heap.size r1 w2.heap.size r2 E X1 a1 Y1 m1 B2:=⟨(k1.below hba2).below hbd2,k2,(hE2.below hbd2).imp (fun b h=>h.1),((hWX.belowk hbd1).belowk hba2).belowk hbd2,((hWY.belowk hbd1).belowk hba2).belowk hbd2,hbB2⟩
 have hg12:w1.heap.size < w2.heap.size:=Nat.lt_of_lt_of_le hB1s hba2.size
 have HXb:=Zai hXb
 have HYb:=Zai hYb
 have HEe:=Zai hEe.out
 have HX:=Zai hX
 have hx5:∀ wr,SpI w B1.heap.size w1.heap.size r1 w2.heap.size r2 E X1 a1 Y1 m1 wr→wr.cell? ⟨w1.heap.size,5,none⟩=some (.slice Y1 m1 d1)∧wr.cell? ⟨w1.heap.size,4,none⟩=some (.slice X1 a1 c1):=fun wr h=>by
  have h1:=h.1
  rw[HRW1.out]at h1
  exact ⟨h1.cell 5,h1.cell 4⟩
 have HX5:=Zai hx5
 have HSI:=Zai hsi
 obtain ⟨x5,x4⟩:=hx5 B2 hsi
 obtain ⟨g1,hg1⟩:=Zaf w1.heap.size
 obtain ⟨g2,hg2⟩:=Zaf w2.heap.size
 obtain ⟨bs,hbs⟩:=Zaf B1.heap.size
 clear hXb hYb hEe hX hx5 hsi hA2 hbc2 hE1 hEB hE2 hW1 hWX hWY x4
 go_upto_region 5 with (first
  | (at_builtin;fail)
  | (rw[←hAl2.out];refine wpList_store_row rfl 26 _ _ rfl _ r2.toArray rfl rfl 26 Zag.toArray k02 (kE6 h62) (by simp[h62,Zag,Zav]) (Zas h12) ?_;rw[←hB2.out]))
 go_wp2_with (first|(at_builtin;fail))
 clear x5
 go_loopw [25] (fun i wr=>∃ k:Nat,k≤m1∧i=.int .i64 k∧Hid (SpI w B1.heap.size w1.heap.size r1 w2.heap.size r2 E X1 a1 Y1 m1 wr)) (fun i _=>m1 - (intOf i).toNat)
 case atStart=>exact ⟨0,Nat.zero_le _,rfl,HSI⟩
 case round=>
  obtain ⟨k,hk,rfl,hI⟩:=hrel
  by_cases hlt:k < m1
  · have hi0:(0:Int)≤(k:Int):=by omega
    have hi1:(k:Int) < (m1:Int):=by omega
    obtain ⟨x5,-⟩:=HX5.out wr hI.out
    cases Y1 with
    | none=>exact absurd (hY0 rfl) (by omega)
    | some y=>
    obtain ⟨hy1,hy2⟩:=hI.out.2.2.2.2.1 y rfl
    obtain ⟨yb,yo,ys⟩:=y
    simp only[]at hy1 hy2
    cases hy1
    obtain ⟨hc0,hf0⟩:=hy2 (k * 6) (by omega)
    obtain ⟨v0,hv0⟩:=Option.isSome_iff_exists.1 hc0
    have hYr:w0.heap.size≤yb∧yb < w1.heap.size:=HYb.out _ rfl
    have hnx:=hI.out.put ⟨yb,yo+k * 6,none⟩ (.int .u8 0) (by have:=hYr.1;have:=hgs1;have:=hb0.size;show _≤yb;omega) hYr.2 hg12 hB1s
    clear hc0 hy2 hYr
    go_wp2_with (first|(at_builtin;fail))
    go_roundw
    case rel=>exact ⟨k+1,by omega,by go_num,Zai hnx⟩
    case measure=>simp[intOf];omega
  · have hi1:¬ (k:Int) < (m1:Int):=by omega
    obtain ⟨-,x4⟩:=HX5.out wr hI.out
    have HI:=Zai hI.out
    clear hI HSI
    go_upto_region 10 with (first|(at_builtin;fail))
    go_wp2_with (first|(at_builtin;fail))
    clear x4
    obtain ⟨W4,hW4⟩:=Zaf wr
    go_loopw [37] (fun i wr=>∃ k:Nat,k≤a1∧i=.int .i64 k∧Hid (SpI w B1.heap.size w1.heap.size r1 w2.heap.size r2 E X1 a1 Y1 m1 wr)) (fun i _=>a1 - (intOf i).toNat)
    case atStart=>exact ⟨0,Nat.zero_le _,rfl,HI⟩
    case round=>
     clear HI
     obtain ⟨j,hj,rfl,hI⟩:=hrel
     by_cases hlt:j < a1
     · have hi0:(0:Int)≤(j:Int):=by omega
       have hi1:(j:Int) < (a1:Int):=by omega
       obtain ⟨-,x4⟩:=HX5.out wr hI.out
       cases X1 with
       | none=>exact absurd (hX0 rfl) (by omega)
       | some y=>
       obtain ⟨hy1,hy2⟩:=hI.out.2.2.2.1 y rfl
       obtain ⟨yb,yo,ys⟩:=y
       simp only[]at hy1 hy2
       cases hy1
       obtain ⟨hc0,hf0⟩:=hy2 j (by omega)
       obtain ⟨v0,hv0⟩:=Option.isSome_iff_exists.1 hc0
       have hYr:w0.heap.size≤yb∧yb < w1.heap.size:=HXb.out _ rfl
       have hnx:=hI.out.put ⟨yb,yo+j,none⟩ (.string ⟨#[115,112,111,105,108,116]⟩) (by have:=hYr.1;have:=hgs1;have:=hb0.size;show _≤yb;omega) hYr.2 hg12 hB1s
       clear hc0 hy2 hYr
       go_wp2_with (first|(at_builtin;fail))
       go_roundw
       case rel=>exact ⟨j+1,by omega,by go_num,Zai hnx⟩
       case measure=>simp[intOf];omega
     · have hi1:¬ (j:Int) < (a1:Int):=by omega
       have hbI:=hI.out.2.2.2.2.2
       have hp3:=Zgy hC s wr hs (htab.below hbI)
       rw[HX.out]at hp3
       go_upto_region 15 with (first|(at_builtin;fail))
       go_wp2_with (first|(at_builtin;fail))
       refine hp3.mono ?_
       clear hp3
       rintro e w3 ⟨⟨v3,rfl,hres3⟩,hba3⟩
       obtain ⟨r3,rfl,h63,h13,hex3,hze3⟩:=Zdm hres3
       clear hres3
       have k03:=Blk.new w3 Zag 26
       have hbc3:=Zac w3 (.cells Zag.toArray 26)
       obtain ⟨A3,hA3⟩:=Zaf (w3.alloc (.cells Zag.toArray 26))
       have hAl3:Hid (A3=w3.alloc (.cells #[.int .u8 0,.int .i64 0,.string ⟨#[]⟩,.string ⟨#[]⟩,.slice none 0 0,.slice none 0 0] 26)):=hA3
       rw[←hA3.out]at k03 hbc3
       have k3:=k03.vrow r3
       have hbd3:=Zah hbc3 (Nat.le_refl _) r3.toArray
       obtain ⟨B3,hB3⟩:=Zaf (A3.setRow w3.heap.size r3.toArray)
       rw[←hB3.out]at k3 hbd3
       have hbB3:Below w.heap.size w B3:=bt (bt hbI hba3) hbd3
       have hgs3:w.heap.size≤w3.heap.size:=(bt hbI hba3).size
       clear hA3 hbc3
       obtain ⟨hE3,-⟩:=Zus hex3 hze3
       rw[←HEe.out]at hE3
       have hEk:=(hI.out.2.2.1.below hba3).below hbd3
       have k2d:=(hI.out.2.1.below hba3).below hbd3
       have k3d:=k3
       have hsm:=Zun (w:=B3) (hE3.below hbd3) hEk
       obtain ⟨o3,n3,s3,t3,X3,a3,c3,Y3,m3,d3,hrw3⟩:=Zcf hE3
       obtain ⟨o2,n2,s2,t2,X2,a2,c2,Y2,m2,d2,hrw2⟩:=Zcf hEk
       rw[hrw3]at k3d
       rw[hrw2]at k2d
       rw[Zhv hrw3,Zhv hrw2]at hsm
       have y0:B3.cell? ⟨w3.heap.size,0,none⟩=some (.int .u8 (o3:Int)):=k3d.cell 0
       have y1:B3.cell? ⟨w3.heap.size,1,none⟩=some (.int .i64 n3):=k3d.cell 1
       have y2:B3.cell? ⟨w3.heap.size,2,none⟩=some (.string s3):=k3d.cell 2
       have y3:B3.cell? ⟨w3.heap.size,3,none⟩=some (.string t3):=k3d.cell 3
       have y4:B3.cell? ⟨w3.heap.size,4,none⟩=some (.slice X3 a3 c3):=k3d.cell 4
       have y5:B3.cell? ⟨w3.heap.size,5,none⟩=some (.slice Y3 m3 d3):=k3d.cell 5
       have x0:B3.cell? ⟨w2.heap.size,0,none⟩=some (.int .u8 (o2:Int)):=k2d.cell 0
       have x1:B3.cell? ⟨w2.heap.size,1,none⟩=some (.int .i64 n2):=k2d.cell 1
       have x2:B3.cell? ⟨w2.heap.size,2,none⟩=some (.string s2):=k2d.cell 2
       have x3:B3.cell? ⟨w2.heap.size,3,none⟩=some (.string t2):=k2d.cell 3
       have x4:B3.cell? ⟨w2.heap.size,4,none⟩=some (.slice X2 a2 c2):=k2d.cell 4
       have x5:B3.cell? ⟨w2.heap.size,5,none⟩=some (.slice Y2 m2 d2):=k2d.cell 5
       clear hrw3 hrw2
       clear hE3 hEk hex3 hze3
       go_upto_region 16 with (first
        | (at_builtin;fail)
        | (rw[←hAl3.out];refine wpList_store_row rfl 26 _ _ rfl _ r3.toArray rfl rfl 26 Zag.toArray k03 (kE6 h63) (by simp[h63,Zag,Zav]) (Zas h13) ?_;rw[←hB3.out]))
       go_wp2_with (first|(at_builtin;fail))
       refine hsm.mono ?_
       clear hsm
       rintro e w7 ⟨rfl,hb7⟩
       go_wp2_with (first|(at_builtin;fail))
       go_ret
       exact ⟨rfl,bt hbB3 hb7⟩
end Go.Proofs.YtnhooehmcggmdaaGreatDoor
