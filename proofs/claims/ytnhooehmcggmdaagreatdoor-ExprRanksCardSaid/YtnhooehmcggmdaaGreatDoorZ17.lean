/- Parts of a proof about the given program: XTokW7, XCut0. -/
import Derived.Shelf.Abstract
import Derived.Test.YtnhooehmcggmdaaGreatDoorZ16
import Derived.Test.YtnhooehmcggmdaaGreatDoorZ04
namespace Go.Proofs.YtnhooehmcggmdaaGreatDoor
set_option maxHeartbeats 16000000
set_option linter.unusedVariables false
set_option linter.unusedSimpArgs false
set_option linter.unusedSectionVars false
open Go.RowKit
theorem of_w (k:Nat) (w:World):Calls Tryz.prog 62 #[.int .u8 (k:Int)] w fun e w'=>e=.returned (.func (.func 63) #[] #[.pointer (some ⟨w.heap.size,0,none⟩)])∧w'=w.alloc (.cells #[.int .u8 (k:Int)] 93):=by
 have hmf:∀ (fn:Fn) (first cap:Array Value) (w:World),(Instr.makeFunc fn first cap).run Tryz.prog w=.ok (.func fn first cap) w:=fun _ _ _ _=>rfl
 go_enter Tryz.func62,Tryz.ntmps62
 go_wp2_with (first|(at_builtin;fail))
 go_ret
 exact ⟨rfl,rfl⟩
theorem begins_w (b:UInt8) (k:Nat) (p:Nat) (w:World) (hp:w.cell? ⟨p,0,none⟩=some (.int .u8 (k:Int))) :
 Calls Tryz.prog 63 #[.int .u8 (b.toNat:Int),.pointer (some ⟨p,0,none⟩)] w fun e w'=>e=.returned (.bool ((Zqc b:Int) == (k:Int)))∧∃ m,w'=w.drewN m:=by
 go_enter Tryz.func63,Tryz.ntmps63
 go_wp2_with (go_quiet ((go_at_call 64;exact quiet_left ((class_w _ _).mono (fun _ _ h=>⟨h.1,h.2.symm⟩)))))
 go_ret
 exact ⟨rfl,_,rfl⟩
theorem quote_w (b:UInt8) (w:World):Calls Tryz.prog 67 #[.int .u8 (b.toNat:Int)] w fun e w'=>e=.returned (.bool ((b.toNat:Int) == 34))∧w'=w:=by
 go_enter Tryz.func67,Tryz.ntmps67
 go_wp2_with (first|(at_builtin;fail))
 go_ret
 exact ⟨rfl,rfl⟩
theorem res_form (R:Except Int (Tok × Nat)):∃ (t:Tok) (n:Nat) (e:Int),resV R=.tuple #[.agg (Zae t).toArray,.int .i64 (n:Int),.int .i64 e]:=by
 cases R with
 | ok z=>exact ⟨z.1,z.2,0,rfl⟩
 | error e=>exact ⟨Zan,0,e,rfl⟩
theorem next_word {b:UInt8} {r:List UInt8} (h:Zhd b=true):Zdb (b :: r)=.ok (⟨1,(b :: r).take (Zba 6 (b :: r)),0,0⟩,Zba 6 (b :: r)):=by
 unfold Zdb
 simp only[]
 rw[if_pos h]
theorem next_long {b:UInt8} {r:List UInt8} (h:Zhd b=false) (h2:Zgz b=true):Zdb (b :: r)=longL b (b :: r):=by
 unfold Zdb longL
 simp only[]
 rw[if_neg (by rw[h];decide),if_pos h2]
 cases Lib.parseIntB 64 ((b :: r).take (Zba 4 (b :: r))) <;> rfl
theorem next_text {b:UInt8} {r:List UInt8} (h:b.toNat=34):Zdb (b :: r)=textL r:=by
 obtain rfl:b=34:=UInt8.toNat_inj.1 h
 rfl
theorem next_sign {b:UInt8} {r:List UInt8} (h:Zhd b=false) (h2:Zgz b=false) (h3:b.toNat ≠ 34):Zdb (b :: r)=signL (b :: r):=by
 unfold Zdb signL
 simp only[]
 rw[if_neg (by rw[h];decide),if_neg (by rw[h2];decide),if_neg h3]
 rfl
theorem cls2 (b:UInt8):((Zqc b:Int) == ((2:Nat):Int))=Zhd b∧(Zhd b=false→((Zqc b:Int) == ((4:Nat):Int))=Zgz b):=by
 have key:∀ n:Fin 256,((Zqc (UInt8.ofNat n.val):Int) == ((2:Nat):Int))=Zhd (UInt8.ofNat n.val)∧(Zhd (UInt8.ofNat n.val)=false→((Zqc (UInt8.ofNat n.val):Int) == ((4:Nat):Int))=Zgz (UInt8.ofNat n.val)):=by decide +kernel
 have h:=key ⟨b.toNat,b.toNat_lt⟩
 have e:UInt8.ofNat b.toNat=b:=by simp
 simp only[e]at h
 exact h
set_option maxRecDepth 100000 in
theorem next_w (s:ByteArray) (w:World) (hs:s.size≤140737488351232) (h0:0 < s.size) (ht:Tb8 w) :
 Calls Tryz.prog 32 #[.string s] w fun e w'=>e=.returned (resV (Zdb s.data.toList))∧Below w.heap.size w w':=by
 have hd:=Zja s 0 h0
 rw[List.drop_zero,Nat.zero_add]at hd
 have hR:=congrArg (fun l=>resV (Zdb l)) hd
 replace hR:resV (Zdb s.data.toList)=resV (Zdb (s[0] :: s.data.toList.drop 1)):=hR
 obtain ⟨R,HR⟩:=Zaf (resV (Zdb s.data.toList))
 rw[←HR.out]at hR ⊢
 clear HR
 obtain ⟨t',n',e',hf0⟩:=res_form (Zdb (s[0] :: s.data.toList.drop 1))
 rw[←hR]at hf0
 have hf:=Zai hf0
 have HR:=Zai hR
 clear hR hf0
 have hR:=HR
 clear HR
 have h01:(0:Int) < (s.size:Int):=by omega
 have hof2:∀ W,Calls Tryz.prog 62 #[.int .u8 2] W fun e w'=>e=.returned (.func (.func 63) #[] #[.pointer (some ⟨W.heap.size,0,none⟩)])∧w'=W.alloc (.cells #[.int .u8 2] 93):=of_w 2
 have hof4:∀ W,Calls Tryz.prog 62 #[.int .u8 4] W fun e w'=>e=.returned (.func (.func 63) #[] #[.pointer (some ⟨W.heap.size,0,none⟩)])∧w'=W.alloc (.cells #[.int .u8 4] 93):=of_w 4
 have hbel0:=Zac w (.cells (Zae Zan).toArray 46)
 have htok0:=Blk.new w (Zae Zan) 46
 obtain ⟨W0,hW0⟩:=Zaf (w.alloc (.cells (Zae Zan).toArray 46))
 have hWl:Hid (W0=w.alloc (.cells #[.int .u8 0,.string ⟨#[]⟩,.int .i64 0,.int .i64 0] 46)):=hW0
 rw[←hW0.out]at hbel0 htok0
 have hs0:W0.heap.size=w.heap.size+1:=by rw[hW0.out];show (w.heap.push _).size=_;exact Array.size_push _
 have c1:=Blk.new W0 [.int .u8 2] 93
 have hbel1:=bt hbel0 (Zac W0 (.cells #[.int .u8 2] 93))
 have htok1:=htok0.alloc (.cells #[.int .u8 2] 93)
 obtain ⟨W1,hW1⟩:=Zaf (W0.alloc (.cells #[.int .u8 2] 93))
 have c1':Blk W1 W0.heap.size [.int .u8 2] 93:=by rw[hW1.out];exact c1
 have hs1:W1.heap.size=w.heap.size+2:=by rw[hW1.out];show (W0.heap.push _).size=_;rw[Array.size_push,hs0]
 rw[←hW1.out]at hbel1 htok1
 have c2:=Blk.new W1 [.int .u8 4] 93
 have hbel2:=bt hbel1 (Zac W1 (.cells #[.int .u8 4] 93))
 have htok2:=htok1.alloc (.cells #[.int .u8 4] 93)
 have c1'':=c1'.alloc (.cells #[.int .u8 4] 93)
 obtain ⟨W2,hW2⟩:=Zaf (W1.alloc (.cells #[.int .u8 4] 93))
 have c2':Blk W2 W1.heap.size [.int .u8 4] 93:=by rw[hW2.out];exact c2
 have hs2:W2.heap.size=w.heap.size+3:=by rw[hW2.out];show (W1.heap.push _).size=_;rw[Array.size_push,hs1]
 rw[←hW2.out]at hbel2 htok2 c1''
 rw[hs0]at c1''
 rw[hs1]at c2'
 clear c1 c2 c1' hbel0 hbel1 htok0 htok1
 have HB2:=Zai hbel2
 have HT2:=Zai htok2
 have HC1:=Zai c1''
 have HC2:=Zai c2'
 clear hbel2 htok2 c1'' c2'
 go_enter Tryz.func32,Tryz.ntmps32
 go_wp2_with (first|(at_builtin;fail))
 rw[←hWl.out]
 refine (hof2 _).mono ?_
 rintro e1 w1 ⟨rfl,rfl⟩
 rw[←hW1.out,hs0]
 go_wp2_with (first|(at_builtin;fail))
 refine (hof4 _).mono ?_
 rintro e1 w1 ⟨rfl,rfl⟩
 rw[←hW2.out,hs1]
 clear hW0 hWl hW1 hW2 hof2 hof4 hs0 hs1
 go_wp2_with (first|(at_builtin;fail))
 obtain ⟨W3,hW3⟩:=Zaf (W2.alloc (.cells #[(.func (.func 63) #[] #[.pointer (some ⟨w.heap.size+1,0,none⟩)]),(.func (.func 65) #[] #[]),(.func (.func 63) #[] #[.pointer (some ⟨w.heap.size+2,0,none⟩)]),(.func (.func 66) #[] #[]),(.func (.func 67) #[] #[]),(.func (.func 68) #[] #[])] 100))
 have HK3:Hid (Blk W3 (w.heap.size+3) [(.func (.func 63) #[] #[.pointer (some ⟨w.heap.size+1,0,none⟩)]),(.func (.func 65) #[] #[]),(.func (.func 63) #[] #[.pointer (some ⟨w.heap.size+2,0,none⟩)]),(.func (.func 66) #[] #[]),(.func (.func 67) #[] #[]),(.func (.func 68) #[] #[])] 100):=by
  refine Zai ?_
  rw[hW3.out,←hs2]
  exact Blk.new W2 _ _
 have HB3:Hid (Below w.heap.size w W3):=by rw[hW3.out];exact bt HB2.out (Zac W2 _)
 have HT3:Hid (Blk W3 w.heap.size (Zae Zan) 46):=by rw[hW3.out];exact HT2.out.alloc _
 have HD1:Hid (Blk W3 (w.heap.size+1) [.int .u8 2] 93):=by rw[hW3.out];exact HC1.out.alloc _
 have HD2:Hid (Blk W3 (w.heap.size+2) [.int .u8 4] 93):=by rw[hW3.out];exact HC2.out.alloc _
 rw[←hW3.out]
 clear hW3 HB2 HT2 HC1 HC2 hs2
 go_loopw [17] (fun i wr=>∃ k:Nat,k≤3∧i=.int .i64 k∧((1≤k→Zhd s[0]=false)∧(2≤k→Zgz s[0]=false)∧(3≤k→s[0].toNat ≠ 34))∧Hid (Blk wr (w.heap.size+3) [(.func (.func 63) #[] #[.pointer (some ⟨w.heap.size+1,0,none⟩)]),(.func (.func 65) #[] #[]),(.func (.func 63) #[] #[.pointer (some ⟨w.heap.size+2,0,none⟩)]),(.func (.func 66) #[] #[]),(.func (.func 67) #[] #[]),(.func (.func 68) #[] #[])] 100)∧Hid (Below w.heap.size w wr)∧Hid (Blk wr w.heap.size (Zae Zan) 46)∧Hid (Blk wr (w.heap.size+1) [.int .u8 2] 93)∧Hid (Blk wr (w.heap.size+2) [.int .u8 4] 93)) (fun i _=>3 - (intOf i).toNat)
 case atStart=>exact ⟨0,by omega,rfl,⟨fun h=>by omega,fun h=>by omega,fun h=>by omega⟩,HK3,HB3,HT3,HD1,HD2⟩
 case round=>
  obtain ⟨k,hk,rfl,⟨hno1,hno2,hno3⟩,HK,HB,HT,HC1,HC2⟩:=hrel
  clear HK3 HB3 HT3 HD1 HD2
  rcases (by omega:k=0∨k=1∨k=2∨k=3) with rfl|rfl|rfl|rfl
  · have e0:∀ args W,(callFunc 63 args).run Tryz.prog W=.ok (.enter 63 args) W:=fun _ _=>by kernel_rfl
    have hbg:∀ W:World,W.cell? ⟨w.heap.size+1,0,none⟩=some (.int .u8 ((2:Nat):Int))→Calls Tryz.prog 63 #[.int .u8 (s[0].toNat:Int),.pointer (some ⟨w.heap.size+1,0,none⟩)] W fun e w'=>e=.returned (.bool (Zhd s[0]))∧∃ m,w'=W.drewN m:=fun W h=>(begins_w s[0] 2 (w.heap.size+1) W h).mono (by rintro e w' ⟨rfl,m,rfl⟩;exact ⟨by rw[(cls2 s[0]).1],m,rfl⟩)
    have f0:wr.cell? ⟨w.heap.size+3,0,none⟩=some (.func (.func 63) #[] #[.pointer (some ⟨w.heap.size+1,0,none⟩)]):=HK.out.cell 0
    have f1:wr.cell? ⟨w.heap.size+3,1,none⟩=some (.func (.func 65) #[] #[]):=HK.out.cell 1
    have hlt3:=HK.out.lt
    have kk:=Blk.new wr [Value.nilFunc,Value.nilFunc] 100
    have kb:=Zac wr (.cells #[Value.nilFunc,Value.nilFunc] 100)
    go_upto_region 5 with (first|(at_builtin;fail))
    obtain ⟨W4,hW4⟩:=Zaf (wr.alloc (.cells #[(.func (.func 63) #[] #[.pointer (some ⟨w.heap.size+1,0,none⟩)]),(.func (.func 65) #[] #[])] 100))
    have k4:Blk W4 wr.heap.size [(.func (.func 63) #[] #[.pointer (some ⟨w.heap.size+1,0,none⟩)]),(.func (.func 65) #[] #[])] 100:=by rw[hW4.out];exact Blk.new wr _ _
    have hb4:Below wr.heap.size wr W4:=by rw[hW4.out];exact Zac wr _
    rw[←hW4.out]
    clear hW4 kk kb
    have g0:W4.cell? ⟨wr.heap.size,0,none⟩=some (.func (.func 63) #[] #[.pointer (some ⟨w.heap.size+1,0,none⟩)]):=k4.cell 0
    have g1:W4.cell? ⟨wr.heap.size,1,none⟩=some (.func (.func 65) #[] #[]):=k4.cell 1
    have HB4:=Zai (bt HB.out hb4)
    have HT4:=Zai ((HT.out).below hb4)
    have HC14:=Zai ((HC1.out).below hb4)
    have HC24:=Zai ((HC2.out).below hb4)
    have HK4:=Zai ((HK.out).below hb4)
    clear HB HT HC1 HC2 HK f0 f1
    obtain ⟨v,hv⟩:=Zaf (Zhd s[0])
    rw[←hv.out]at hbg
    go_upto_if 25 with (go_quiet ((go_at_fn 63;exact (hbg _ (by exact HC14.out.cell 0)).mono (fun e w'' h=>⟨h.1,by obtain ⟨m,hm⟩:=h.2;exact ⟨_,hm.trans (World.drewN_drewN ..)⟩⟩))))
    generalize hW5:W4.drewN nq=W5
    have HT5:Hid (Blk W5 w.heap.size (Zae Zan) 46):=by rw[←hW5];exact HT4
    have HB5:Hid (Below w.heap.size w W5):=by rw[←hW5];exact Zai (Zbz HB4.out nq)
    have HC15:Hid (Blk W5 (w.heap.size+1) [.int .u8 2] 93):=by rw[←hW5];exact HC14
    have HC25:Hid (Blk W5 (w.heap.size+2) [.int .u8 4] 93):=by rw[←hW5];exact HC24
    have HK5:Hid (Blk W5 (w.heap.size+3) [(.func (.func 63) #[] #[.pointer (some ⟨w.heap.size+1,0,none⟩)]),(.func (.func 65) #[] #[]),(.func (.func 63) #[] #[.pointer (some ⟨w.heap.size+2,0,none⟩)]),(.func (.func 66) #[] #[]),(.func (.func 67) #[] #[]),(.func (.func 68) #[] #[])] 100):=by rw[←hW5];exact HK4
    have hn1:W5.cell? ⟨wr.heap.size,0,none⟩=some (.func (.func 63) #[] #[.pointer (some ⟨w.heap.size+1,0,none⟩)]):=by rw[←hW5];exact g0
    have hn2:W5.cell? ⟨wr.heap.size,1,none⟩=some (.func (.func 65) #[] #[]):=by rw[←hW5];exact g1
    clear hW5 g0 g1 k4 HB4 HT4 HC14 HC24 HK4 hbg hb4
    cases v with
    | true=>
      have hcall:Calls Tryz.prog 65 #[.string s] W5 fun e w'=>e=.returned R∧Below W5.heap.size W5 w':=by
       rw[hR.out,next_word hv.out.symm,←hd]
       exact word_w s W5 hs
      rw[hf.out]at hcall
      clear hR hv hno1 hno2 hno3
      go_wp2_with (first|(at_builtin;fail))
      refine hcall.mono ?_
      rintro e1 w1 ⟨rfl,hb1⟩
      clear hcall
      have kt:Blk w1 w.heap.size (Zae Zan) 46:=HT5.out.below hb1
      have hbt:=bt HB5.out hb1
      go_wp2_with (first
       | (at_builtin;fail)
       | refine wpList_store_row rfl 46 _ _ rfl _ (Zae t').toArray rfl rfl 46 (Zae Zan).toArray kt (kT4 rfl) rfl (Zay _) ?_)
      exact bodyPost_ret (Zhz rfl _ rfl (kt.vrow (Zae t')) rfl rfl rfl) rfl ⟨by rw[hf.out];rfl,Zah hbt (Nat.le_refl _) _⟩
    | false=>
      have hnow:=hv.out.symm
      go_wp2_with (first|(at_builtin;fail))
      go_roundw
      case rel=>exact ⟨1,by omega,by go_num,⟨fun _=>hnow,fun h=>by omega,fun h=>by omega⟩,HK5,HB5,HT5,HC15,HC25⟩
      case measure=>simp[intOf]
  · have hno:=hno1 (by omega)
    have e1:∀ args W,(callFunc 63 args).run Tryz.prog W=.ok (.enter 63 args) W:=fun _ _=>by kernel_rfl
    have hbg:∀ W:World,W.cell? ⟨w.heap.size+2,0,none⟩=some (.int .u8 ((4:Nat):Int))→Calls Tryz.prog 63 #[.int .u8 (s[0].toNat:Int),.pointer (some ⟨w.heap.size+2,0,none⟩)] W fun e w'=>e=.returned (.bool (Zgz s[0]))∧∃ m,w'=W.drewN m:=fun W h=>(begins_w s[0] 4 (w.heap.size+2) W h).mono (by rintro e w' ⟨rfl,m,rfl⟩;exact ⟨by rw[(cls2 s[0]).2 hno],m,rfl⟩)
    have f0:wr.cell? ⟨w.heap.size+3,2,none⟩=some (.func (.func 63) #[] #[.pointer (some ⟨w.heap.size+2,0,none⟩)]):=HK.out.cell 2
    have f1:wr.cell? ⟨w.heap.size+3,3,none⟩=some (.func (.func 66) #[] #[]):=HK.out.cell 3
    have hlt3:=HK.out.lt
    have kk:=Blk.new wr [Value.nilFunc,Value.nilFunc] 100
    have kb:=Zac wr (.cells #[Value.nilFunc,Value.nilFunc] 100)
    go_upto_region 5 with (first|(at_builtin;fail))
    obtain ⟨W4,hW4⟩:=Zaf (wr.alloc (.cells #[(.func (.func 63) #[] #[.pointer (some ⟨w.heap.size+2,0,none⟩)]),(.func (.func 66) #[] #[])] 100))
    have k4:Blk W4 wr.heap.size [(.func (.func 63) #[] #[.pointer (some ⟨w.heap.size+2,0,none⟩)]),(.func (.func 66) #[] #[])] 100:=by rw[hW4.out];exact Blk.new wr _ _
    have hb4:Below wr.heap.size wr W4:=by rw[hW4.out];exact Zac wr _
    rw[←hW4.out]
    clear hW4 kk kb
    have g0:W4.cell? ⟨wr.heap.size,0,none⟩=some (.func (.func 63) #[] #[.pointer (some ⟨w.heap.size+2,0,none⟩)]):=k4.cell 0
    have g1:W4.cell? ⟨wr.heap.size,1,none⟩=some (.func (.func 66) #[] #[]):=k4.cell 1
    have HB4:=Zai (bt HB.out hb4)
    have HT4:=Zai ((HT.out).below hb4)
    have HC14:=Zai ((HC1.out).below hb4)
    have HC24:=Zai ((HC2.out).below hb4)
    have HK4:=Zai ((HK.out).below hb4)
    clear HB HT HC1 HC2 HK f0 f1
    obtain ⟨v,hv⟩:=Zaf (Zgz s[0])
    rw[←hv.out]at hbg
    go_upto_if 25 with (go_quiet ((go_at_fn 63;exact (hbg _ (by exact HC24.out.cell 0)).mono (fun e w'' h=>⟨h.1,by obtain ⟨m,hm⟩:=h.2;exact ⟨_,hm.trans (World.drewN_drewN ..)⟩⟩))))
    generalize hW5:W4.drewN nq=W5
    have HT5:Hid (Blk W5 w.heap.size (Zae Zan) 46):=by rw[←hW5];exact HT4
    have HB5:Hid (Below w.heap.size w W5):=by rw[←hW5];exact Zai (Zbz HB4.out nq)
    have HC15:Hid (Blk W5 (w.heap.size+1) [.int .u8 2] 93):=by rw[←hW5];exact HC14
    have HC25:Hid (Blk W5 (w.heap.size+2) [.int .u8 4] 93):=by rw[←hW5];exact HC24
    have HK5:Hid (Blk W5 (w.heap.size+3) [(.func (.func 63) #[] #[.pointer (some ⟨w.heap.size+1,0,none⟩)]),(.func (.func 65) #[] #[]),(.func (.func 63) #[] #[.pointer (some ⟨w.heap.size+2,0,none⟩)]),(.func (.func 66) #[] #[]),(.func (.func 67) #[] #[]),(.func (.func 68) #[] #[])] 100):=by rw[←hW5];exact HK4
    have hn1:W5.cell? ⟨wr.heap.size,0,none⟩=some (.func (.func 63) #[] #[.pointer (some ⟨w.heap.size+2,0,none⟩)]):=by rw[←hW5];exact g0
    have hn2:W5.cell? ⟨wr.heap.size,1,none⟩=some (.func (.func 66) #[] #[]):=by rw[←hW5];exact g1
    clear hW5 g0 g1 k4 HB4 HT4 HC14 HC24 HK4 hbg hb4
    cases v with
    | true=>
      have hcall:Calls Tryz.prog 66 #[.string s] W5 fun e w'=>e=.returned R∧Below W5.heap.size W5 w':=by
       rw[hR.out,next_long (hno1 (by omega)) hv.out.symm,←hd]
       exact long_w s W5 hs h0 (ht.below HB5.out)
      rw[hf.out]at hcall
      clear hR hv hno1 hno2 hno3
      go_wp2_with (first|(at_builtin;fail))
      refine hcall.mono ?_
      rintro e1 w1 ⟨rfl,hb1⟩
      clear hcall
      have kt:Blk w1 w.heap.size (Zae Zan) 46:=HT5.out.below hb1
      have hbt:=bt HB5.out hb1
      go_wp2_with (first
       | (at_builtin;fail)
       | refine wpList_store_row rfl 46 _ _ rfl _ (Zae t').toArray rfl rfl 46 (Zae Zan).toArray kt (kT4 rfl) rfl (Zay _) ?_)
      exact bodyPost_ret (Zhz rfl _ rfl (kt.vrow (Zae t')) rfl rfl rfl) rfl ⟨by rw[hf.out];rfl,Zah hbt (Nat.le_refl _) _⟩
    | false=>
      have hnow:=hv.out.symm
      go_wp2_with (first|(at_builtin;fail))
      go_roundw
      case rel=>exact ⟨2,by omega,by go_num,⟨fun _=>hno1 (by omega),fun _=>hnow,fun h=>by omega⟩,HK5,HB5,HT5,HC15,HC25⟩
      case measure=>simp[intOf]
  · have e2:∀ args W,(callFunc 67 args).run Tryz.prog W=.ok (.enter 67 args) W:=fun _ _=>by kernel_rfl
    have hbg:∀ W:World,Calls Tryz.prog 67 #[.int .u8 (s[0].toNat:Int)] W fun e w'=>e=.returned (.bool (((s[0].toNat:Int) == 34)))∧∃ m,w'=W.drewN m:=fun W=>(quote_w s[0] W).mono (by rintro e w' ⟨rfl,rfl⟩;exact ⟨rfl,0,rfl⟩)
    have f0:wr.cell? ⟨w.heap.size+3,4,none⟩=some (.func (.func 67) #[] #[]):=HK.out.cell 4
    have f1:wr.cell? ⟨w.heap.size+3,5,none⟩=some (.func (.func 68) #[] #[]):=HK.out.cell 5
    have hlt3:=HK.out.lt
    have kk:=Blk.new wr [Value.nilFunc,Value.nilFunc] 100
    have kb:=Zac wr (.cells #[Value.nilFunc,Value.nilFunc] 100)
    go_upto_region 5 with (first|(at_builtin;fail))
    obtain ⟨W4,hW4⟩:=Zaf (wr.alloc (.cells #[(.func (.func 67) #[] #[]),(.func (.func 68) #[] #[])] 100))
    have k4:Blk W4 wr.heap.size [(.func (.func 67) #[] #[]),(.func (.func 68) #[] #[])] 100:=by rw[hW4.out];exact Blk.new wr _ _
    have hb4:Below wr.heap.size wr W4:=by rw[hW4.out];exact Zac wr _
    rw[←hW4.out]
    clear hW4 kk kb
    have g0:W4.cell? ⟨wr.heap.size,0,none⟩=some (.func (.func 67) #[] #[]):=k4.cell 0
    have g1:W4.cell? ⟨wr.heap.size,1,none⟩=some (.func (.func 68) #[] #[]):=k4.cell 1
    have HB4:=Zai (bt HB.out hb4)
    have HT4:=Zai ((HT.out).below hb4)
    have HC14:=Zai ((HC1.out).below hb4)
    have HC24:=Zai ((HC2.out).below hb4)
    have HK4:=Zai ((HK.out).below hb4)
    clear HB HT HC1 HC2 HK f0 f1
    obtain ⟨v,hv⟩:=Zaf (((s[0].toNat:Int) == 34))
    rw[←hv.out]at hbg
    go_upto_if 25 with (go_quiet ((go_at_fn 67;exact (hbg _).mono (fun e w'' h=>⟨h.1,by obtain ⟨m,hm⟩:=h.2;exact ⟨_,hm.trans (World.drewN_drewN ..)⟩⟩))))
    generalize hW5:W4.drewN nq=W5
    have HT5:Hid (Blk W5 w.heap.size (Zae Zan) 46):=by rw[←hW5];exact HT4
    have HB5:Hid (Below w.heap.size w W5):=by rw[←hW5];exact Zai (Zbz HB4.out nq)
    have HC15:Hid (Blk W5 (w.heap.size+1) [.int .u8 2] 93):=by rw[←hW5];exact HC14
    have HC25:Hid (Blk W5 (w.heap.size+2) [.int .u8 4] 93):=by rw[←hW5];exact HC24
    have HK5:Hid (Blk W5 (w.heap.size+3) [(.func (.func 63) #[] #[.pointer (some ⟨w.heap.size+1,0,none⟩)]),(.func (.func 65) #[] #[]),(.func (.func 63) #[] #[.pointer (some ⟨w.heap.size+2,0,none⟩)]),(.func (.func 66) #[] #[]),(.func (.func 67) #[] #[]),(.func (.func 68) #[] #[])] 100):=by rw[←hW5];exact HK4
    have hn1:W5.cell? ⟨wr.heap.size,0,none⟩=some (.func (.func 67) #[] #[]):=by rw[←hW5];exact g0
    have hn2:W5.cell? ⟨wr.heap.size,1,none⟩=some (.func (.func 68) #[] #[]):=by rw[←hW5];exact g1
    clear hW5 g0 g1 k4 HB4 HT4 HC14 HC24 HK4 hbg hb4
    cases v with
    | true=>
      have hcall:Calls Tryz.prog 68 #[.string s] W5 fun e w'=>e=.returned R∧Below W5.heap.size W5 w':=by
       rw[hR.out,next_text (by have h:=hv.out.symm;rw[beq_iff_eq]at h;omega)]
       exact text_w s W5 hs h0 (ht.below HB5.out)
      rw[hf.out]at hcall
      clear hR hv hno1 hno2 hno3
      go_wp2_with (first|(at_builtin;fail))
      refine hcall.mono ?_
      rintro e1 w1 ⟨rfl,hb1⟩
      clear hcall
      have kt:Blk w1 w.heap.size (Zae Zan) 46:=HT5.out.below hb1
      have hbt:=bt HB5.out hb1
      go_wp2_with (first
       | (at_builtin;fail)
       | refine wpList_store_row rfl 46 _ _ rfl _ (Zae t').toArray rfl rfl 46 (Zae Zan).toArray kt (kT4 rfl) rfl (Zay _) ?_)
      exact bodyPost_ret (Zhz rfl _ rfl (kt.vrow (Zae t')) rfl rfl rfl) rfl ⟨by rw[hf.out];rfl,Zah hbt (Nat.le_refl _) _⟩
    | false=>
      have hnow:=hv.out.symm
      go_wp2_with (first|(at_builtin;fail))
      go_roundw
      case rel=>exact ⟨3,by omega,by go_num,⟨fun _=>hno1 (by omega),fun _=>hno2 (by omega),fun _ h=>by rw[h]at hnow;cases hnow⟩,HK5,HB5,HT5,HC15,HC25⟩
      case measure=>simp[intOf]
  · have hcall:Calls Tryz.prog 69 #[.string s] wr fun e w'=>e=.returned R∧Below wr.heap.size wr w':=by
     rw[hR.out,next_sign (hno1 (by omega)) (hno2 (by omega)) (hno3 (by omega)),←hd]
     exact sign_w s wr hs h0 (ht.below HB.out)
    rw[hf.out]at hcall
    clear hR hno1 hno2 hno3
    go_wp2_with (first|(at_builtin;fail))
    refine hcall.mono ?_
    rintro e1 w1 ⟨rfl,hb1⟩
    clear hcall
    have kt:Blk w1 w.heap.size (Zae Zan) 46:=HT.out.below hb1
    have hbt:=bt HB.out hb1
    go_wp2_with (first
     | (at_builtin;fail)
     | refine wpList_store_row rfl 46 _ _ rfl _ (Zae t').toArray rfl rfl 46 (Zae Zan).toArray kt (kT4 rfl) rfl (Zay _) ?_)
    exact bodyPost_ret (Zhz rfl _ rfl (kt.vrow (Zae t')) rfl rfl rfl) rfl ⟨by rw[hf.out];rfl,Zah hbt (Nat.le_refl _) _⟩
theorem Zzf {m:Nat} {b:UInt8} {r:List UInt8} (h:Zey m b=true):0 < Zba m (b :: r):=by
 unfold Zba
 rw[List.takeWhile_cons,h]
 simp
theorem lit_bound:∀ (k:Nat) (r acc:List UInt8) (i:Nat) (x:List UInt8) (n:Nat) (c:Bool),r.length≤k→Zia r acc i=some (x,n,c)→i≤n∧n≤i+r.length∧(c=true→n < i+r.length)∧(x.length+i≤acc.length+n):=by
 intro k
 have hnil:∀ (acc:List UInt8) (i:Nat) (x:List UInt8) (n:Nat) (c:Bool),Zia [] acc i=some (x,n,c)→i≤n∧n≤i+([]:List UInt8).length∧(c=true→n < i+([]:List UInt8).length)∧(x.length+i≤acc.length+n):=by
  intro acc i x n c h
  rw[Zia.eq_def]at h
  cases h
  exact ⟨Nat.le_refl _,by simp,fun h=>(by cases h),Nat.le_refl _⟩
 induction k with
 | zero=>
   intro r acc i x n c hk h
   obtain rfl:r=[]:=List.eq_nil_of_length_eq_zero (by omega)
   exact hnil acc i x n c h
 | succ k ih=>
   intro r acc i x n c hk h
   cases r with
   | nil=>exact hnil acc i x n c h
   | cons b r=>
     rw[List.length_cons]at hk ⊢
     rw[Zia.eq_def]at h
     simp only[]at h
     split at h
     · cases h
       exact ⟨Nat.le_refl _,by omega,fun _=>by omega,Nat.le_refl _⟩
     split at h
     · cases r with
       | nil=>cases h
       | cons c2 r=>
         simp only[]at h
         rw[List.length_cons]at hk ⊢
         cases hx:escL c2 with
         | none=>rw[hx]at h;cases h
         | some y=>
           rw[hx]at h
           obtain ⟨a,b',d,e⟩:=ih r _ _ _ _ _ (by omega) h
           have hy:y.length≤2:=by
            unfold escL at hx
            repeat' split at hx
            all_goals first|(cases hx;simp;done)|cases hx
           rw[List.length_append]at e
           exact ⟨by omega,by omega,fun h=>by have:=d h;omega,by omega⟩
     split at h
     · cases h
     · obtain ⟨a,b',d,e⟩:=ih r _ _ _ _ _ (by omega) h
       rw[List.length_append]at e
       simp only[List.length_cons,List.length_nil]at e
       exact ⟨by omega,by omega,fun h=>by have:=d h;omega,by omega⟩
theorem Zpq {b:UInt8} {r:List UInt8} {t:Tok} {n:Nat} (h:Zdb (b :: r)=.ok (t,n)) :
 (Zhd b=true∧t=⟨1,(b :: r).take (Zba 6 (b :: r)),0,0⟩∧n=Zba 6 (b :: r)) ∨
 (Zhd b=false∧Zgz b=true∧∃ x,Lib.parseIntB 64 ((b :: r).take (Zba 4 (b :: r)))=.ok x∧t=⟨2,[],x,0⟩∧n=Zba 4 (b :: r)∧¬ ((Zba 4 (b :: r) > 1∧b.toNat=48)∨Zba 2 ((b :: r).drop (Zba 4 (b :: r))) > 0)) ∨
 (b.toNat=34∧∃ x m,Zia r [] 1=some (x,m,true)∧Lib.validD x=true∧x.length≤256∧t=⟨3,x,0,0⟩∧n=m+1) ∨
 (Zcc.contains ((b :: r).take 2)=true∧t=⟨4,(b :: r).take 2,0,0⟩∧n=2)∨(Zew.contains b=true∧t=⟨4,[b],0,0⟩∧n=1):=by
 unfold Zdb at h
 simp only[]at h
 split at h
 · next h1=>cases h;exact .inl ⟨h1,rfl,rfl⟩
 next h1=>
 split at h
 · next h2=>
   refine .inr (.inl ⟨by simpa using h1,h2,?_⟩)
   cases hp:Lib.parseIntB 64 ((b :: r).take (Zba 4 (b :: r))) with
   | ok x=>
     rw[hp]at h
     simp only[]at h
     split at h
     · cases h
     · next h3=>cases h;exact ⟨x,rfl,rfl,rfl,h3⟩
   | _=>rw[hp]at h;cases h
 next h2=>
 split at h
 · next h3=>
   refine .inr (.inr (.inl ⟨h3,?_⟩))
   cases hl:Zia r [] 1 with
   | none=>rw[hl]at h;cases h
   | some z=>
     obtain ⟨x,m,c⟩:=z
     rw[hl]at h
     simp only[]at h
     split at h
     · cases h
     next hc=>
     split at h
     · cases h
     next hv=>
     split at h
     · cases h
     next hlen=>
     cases h
     obtain rfl:c=true:=by simpa using hc
     exact ⟨x,m,rfl,by simpa using hv,by omega,rfl,rfl⟩
 next h3=>
 split at h
 · next h4=>cases h;exact .inr (.inr (.inr (.inl ⟨h4,rfl,rfl⟩)))
 split at h
 · next h5=>cases h;exact .inr (.inr (.inr (.inr ⟨h5,rfl,rfl⟩)))
 · cases h
theorem Zkk {l:List UInt8} {t:Tok} {n:Nat} (h:Zdb l=.ok (t,n)):0 < n∧n≤l.length∧t.t.length≤l.length:=by
 cases l with
 | nil=>cases h
 | cons b r=>
   rcases Zpq h with ⟨h1,rfl,rfl⟩|⟨_,h2,x,_,rfl,rfl,_⟩|⟨_,x,m,hl,_,_,rfl,rfl⟩|⟨h4,rfl,rfl⟩|⟨_,rfl,rfl⟩
   · have:=Zgg 6 (b :: r)
     exact ⟨Zzf (by rw[(Zjb b).2.2.2.2.2.2.2.1,h1];rfl),this,by simp only[List.length_take];omega⟩
   · have:=Zgg 4 (b :: r)
     exact ⟨Zzf (by rw[(Zjb b).2.2.2.2.2.1,h2]),this,by simp⟩
   · obtain ⟨a,b',d,e⟩:=lit_bound r.length r [] 1 x m true (Nat.le_refl _) hl
     have:=d rfl
     simp only[List.length_cons,List.length_nil]at e ⊢
     exact ⟨by omega,by omega,by omega⟩
   · cases r with
     | nil=>simp[Zcc]at h4
     | cons c r=>exact ⟨by omega,by simp,by simp⟩
   · exact ⟨by omega,by simp,by simp⟩
theorem next_err {l:List UInt8} {e:Int} (h:Zdb l=.error e):e ≠ 0:=by
 rintro rfl
 cases l with
 | nil=>cases h
 | cons b r=>
   unfold Zdb at h
   simp only[]at h
   split at h
   · cases h
   split at h
   · cases hp:Lib.parseIntB 64 ((b :: r).take (Zba 4 (b :: r))) with
     | ok x=>rw[hp]at h;simp only[]at h;split at h <;> cases h
     | _=>rw[hp]at h;cases h
   split at h
   · cases hl:Zia r [] 1 with
     | none=>rw[hl]at h;cases h
     | some z=>
       rw[hl]at h
       simp only[]at h
       split at h
       · cases h
       split at h
       · cases h
       split at h <;> cases h
   split at h
   · cases h
   split at h <;> cases h
theorem Zhf (l:List UInt8):(Zco l).length≤l.length:=by
 obtain ⟨n,h1,h2⟩:=Zuh l
 rw[h2]
 simp
theorem Zqb:∀ (f g N:Nat) (l:List UInt8),l.length < f→l.length < g→Zrq f N l=Zrq g N l
 | 0,_,_,_,h,_=>by omega
 | f+1,0,_,_,_,h=>by omega
 | f+1,g+1,N,l,h1,h2=>by
   rw[Zrq,Zrq]
   split
   · rfl
   · cases hn:Zdb l with
     | error e=>rfl
     | ok z=>
       obtain ⟨t,n⟩:=z
       simp only[]
       obtain ⟨p1,p2,_⟩:=Zkk hn
       have:=Zhf (l.drop n)
       rw[List.length_drop]at this
       rw[Zqb f g N _ (by omega) (by omega)]
def Zqo (N:Nat) (l:List UInt8):Except (Int × Nat) (List Tok):=Zrq (l.length+1) N l
def addT (pre:List Tok):Except (Int × Nat) (List Tok)→Except (Int × Nat) (List Tok)
 | .ok ts=>.ok (pre ++ ts)
 | .error e=>.error e
theorem Zks (N:Nat):Zqo N []=.ok []:=rfl
theorem Ztj {N:Nat} {l:List UInt8} {e:Int} (hl:l ≠ []) (h:Zdb l=.error e):Zqo N l=.error (e,N - l.length):=by
 unfold Zqo
 rw[Zrq,if_neg hl,h]
theorem Zke {N:Nat} {l:List UInt8} {t:Tok} {n:Nat} (hl:l ≠ []) (h:Zdb l=.ok (t,n)):Zqo N l=addT [{ t with at_:=N - l.length }] (Zqo N (Zco (l.drop n))):=by
 unfold Zqo
 rw[Zrq,if_neg hl,h]
 simp only[]
 obtain ⟨p1,p2,_⟩:=Zkk h
 have:=Zhf (l.drop n)
 rw[List.length_drop]at this
 rw[Zqb l.length ((Zco (l.drop n)).length+1) N _ (by omega) (by omega)]
 cases Zrq ((Zco (l.drop n)).length+1) N (Zco (l.drop n)) <;> rfl
theorem Zni (s:List UInt8):Zln s=if s.length > 2048 then .error (3,0) else Zqo s.length (Zco s):=by
 unfold Zln Zqo
 split
 · rfl
 · have:=Zhf s
   exact Zqb _ _ _ _ (by omega) (by omega)
theorem Zwp (a b:List Tok) (x:Except (Int × Nat) (List Tok)):addT a (addT b x)=addT (a ++ b) x:=by
 cases x with
 | error e=>rfl
 | ok ts=>simp[addT]
end Go.Proofs.YtnhooehmcggmdaaGreatDoor
