/- Parts of a proof about the given program: XTokMap, XTokW6, XPrB, XQuo5. -/
import Derived.Maps.OwnSet
import Derived.Maps.Views
import Derived.Test.YtnhooehmcggmdaaGreatDoorZ15
import Derived.Test.YtnhooehmcggmdaaGreatDoorZ08
import Derived.Test.YtnhooehmcggmdaaGreatDoorZ14
namespace Go.Proofs.YtnhooehmcggmdaaGreatDoor
set_option maxHeartbeats 16000000
set_option linter.unusedVariables false
set_option linter.unusedSimpArgs false
set_option linter.unusedSectionVars false
open Go.RowKit Go.Maps
def Zvq (v:Value):Option (DataW Value × List MemPlace):=some (.held v,[])
theorem lawB:Keyed Tryz.prog 5:=int_keyed Tryz.underlying5
def kB (c:Nat):Lit:=.int .u8 (c:Int)
theorem kB_inj {a b:Nat} (h:kB a=kB b):a=b:=by
 unfold kB at h
 injection h with _ h
 omega
theorem kB_key (c:Nat):WideAt.IsKeyLit (kB c):=trivial
def escD:List (Nat × List UInt8)→DataW Value
 | []=>.map []
 | (c,s) :: l=>(escD l).put (kB c) (.held (.string (str s)))
def Zpx:List (Nat × List UInt8):=[(42,[92,42]),(48,[0]),(116,[9]),(110,[10]),(92,[92]),(34,[34])]
theorem escD_map:∀ l,IsMap (escD l)
 | []=>⟨_,rfl⟩
 | (c,s) :: l=>(escD_map l).put _ _
theorem escD_at (c:Nat) (z:DataW Value):∀ l:List (Nat × List UInt8),(escD l).atKey (kB c) z=match l.find? (fun p=>p.1 == c) with|some p=>.held (.string (str p.2))|none=>z
 | []=>rfl
 | (d,s) :: l=>by
   rw[escD]
   by_cases h:d=c
   · subst h
     rw[atKey_put_same (escD_map l) (kB_key d)]
     simp
   · rw[atKey_put_other (fun e=>h (kB_inj e.symm)),escD_at c z l]
     have:((d,s).1 == c)=false:=beq_eq_false_iff_ne.2 h
     rw[List.find?_cons,this]
theorem esc_tab (b:UInt8):(match Zpx.find? (fun p=>p.1 == b.toNat) with|some p=>p.2|none=>[])=(escL b).getD []:=by
 have key:∀ n:Fin 256,(match Zpx.find? (fun p=>p.1 == (UInt8.ofNat n.val).toNat) with|some p=>p.2|none=>[])=(escL (UInt8.ofNat n.val)).getD []:=by decide +kernel
 have h:=key ⟨b.toNat,b.toNat_lt⟩
 have e:UInt8.ofNat b.toNat=b:=by simp
 simp only[e]at h
 exact h
theorem Znh (w:World) (b:Nat) (l:List (Nat × List UInt8)) (c:Nat) (hc:c < 256) (s:ByteArray) (hl:l.length < 6) (h:w.ownsMap Tryz.prog 5 Zvq b l.length (escD l)) :
 ∃ w',(Instr.mapUpdate 133 (.map (some b)) (.int .u8 (c:Int)) (.string s)).run Tryz.prog w=.ok () w'∧w'.ownsMap Tryz.prog 5 Zvq b ((c,s.data.toList) :: l).length (escD ((c,s.data.toList) :: l))∧w.grownBy w' (some b):=by
 obtain ⟨w',h1,h2,h3⟩:=h.update lawB Tryz.underlying133 (by unfold maxLen;omega) (key:=.int .u8 (c:Int)) (val:=.string s) (kl:=kB c) (d:=.held (.string s)) (ps:=[]) (keyOf_int_mk Tryz.underlying5 (by unfold Lit.wf;simp[IntKind.min,IntKind.max,IntKind.signed,IntKind.bits];omega)) rfl
 refine ⟨w',h1,?_,h3⟩
 rw[escD,Zdh]
 exact h2
theorem esc_look (w:World) (b:Nat) (x:UInt8) (h:w.ownsMap Tryz.prog 5 Zvq b 6 (escD Zpx)) :
 (Instr.lookup 133 (.map (some b)) (.int .u8 (x.toNat:Int)) false).run Tryz.prog w=.ok (.string (str ((escL x).getD []))) w:=by
 have hx:=x.toNat_lt
 obtain ⟨v,ps,h1,h2⟩:=h.lookup lawB Tryz.underlying133 (z:=.string ⟨#[]⟩) (by kernel_rfl) (zd:=.held (.string ⟨#[]⟩)) (zp:=[]) rfl (key:=.int .u8 (x.toNat:Int)) (kl:=kB x.toNat) (keyOf_int_mk Tryz.underlying5 (by unfold Lit.wf;simp[IntKind.min,IntKind.max,IntKind.signed,IntKind.bits];omega))
 have h3:=esc_tab x
 have h2a:=congrArg (fun o=>o.map Prod.fst) h2
 have h2b:DataW.held v=(escD Zpx).atKey (kB x.toNat) (.held (.string ⟨#[]⟩)):=Option.some.inj h2a
 rw[escD_at]at h2b
 have h4:v=.string (str ((escL x).getD [])):=by
  rw[←h3]
  cases hq:Zpx.find? (fun p=>p.1 == x.toNat) with
  | none=>
    rw[hq]at h2b
    exact DataW.held.inj h2b
  | some p=>
    rw[hq]at h2b
    exact DataW.held.inj h2b
 rw[←h4]
 exact h1
def textL (l:List UInt8):Except Int (Tok × Nat):=
 match Zia l [] 1 with
 | none=>.error 5
 | some (t,n,c)=>if c=false then .error 5 else if Lib.validD t=false then .error 6 else if t.length > 256 then .error 3 else .ok (⟨3,t,0,0⟩,n+1)
def endL (q:Option (List UInt8 × Nat × Bool)):Except Int (Tok × Nat):=match q with
 | none=>.error 5
 | some (t,n,c)=>if c=false then .error 5 else if Lib.validD t=false then .error 6 else if t.length > 256 then .error 3 else .ok (⟨3,t,0,0⟩,n+1)
theorem Zpz (t:List UInt8) (n:Nat):endL (some (t,n,true))=if Lib.validD t=false then .error 6 else if t.length > 256 then .error 3 else .ok (⟨3,t,0,0⟩,n+1):=rfl
theorem textL_eq (l:List UInt8):textL l=endL (Zia l [] 1):=rfl
abbrev bcs (l:List UInt8):List Value:=Lib.byteCells l
theorem Zyl (l:List UInt8) (s:List UInt8):bcs l ++ Lib.strCells (str s)=bcs (l ++ s):=by
 unfold bcs Lib.strCells Lib.byteCells
 rw[List.map_append]
 congr 1
theorem Znl (l:List UInt8):(bcs l).length=l.length:=by unfold bcs Lib.byteCells;simp
theorem lit_plain {b:UInt8} (h1:b.toNat ≠ 34) (h2:b.toNat ≠ 92) (h3:b.toNat ≠ 10) (r acc:List UInt8) (n:Nat):Zia (b :: r) acc n=Zia r (acc ++ [b]) (n+1):=by
 rw[Zia.eq_def]
 simp only[]
 rw[if_neg h1,if_neg h2,if_neg h3]
theorem lit_nl {b:UInt8} (h3:b.toNat=10) (r acc:List UInt8) (n:Nat):Zia (b :: r) acc n=none:=by
 rw[Zia.eq_def]
 simp only[]
 rw[if_neg (by omega),if_neg (by omega),if_pos h3]
theorem lit_quote {b:UInt8} (h3:b.toNat=34) (r acc:List UInt8) (n:Nat):Zia (b :: r) acc n=some (acc,n,true):=by
 rw[Zia.eq_def]
 simp only[]
 rw[if_pos h3]
theorem Zqm {b:UInt8} (h3:b.toNat=92) (acc:List UInt8) (n:Nat):Zia [b] acc n=none:=by
 rw[Zia.eq_def]
 simp only[]
 rw[if_neg (by omega),if_pos h3]
theorem lit_stroke {b:UInt8} (h3:b.toNat=92) (c:UInt8) (r acc:List UInt8) (n:Nat):Zia (b :: c :: r) acc n=match escL c with|none=>none|some x=>Zia r (acc ++ x) (n+2):=by
 rw[Zia.eq_def]
 simp only[]
 rw[if_neg (by omega),if_pos h3]
 cases escL c <;> rfl
theorem esc_len {c:UInt8} {x:List UInt8} (h:escL c=some x):x ≠ []∧x.length≤2:=by
 unfold escL at h
 split at h
 · cases h;exact ⟨by simp,by simp⟩
 split at h
 · cases h;exact ⟨by simp,by simp⟩
 split at h
 · cases h;exact ⟨by simp,by simp⟩
 split at h
 · cases h;exact ⟨by simp,by simp⟩
 split at h
 · cases h;exact ⟨by simp,by simp⟩
 split at h
 · cases h;exact ⟨by simp,by simp⟩
 · cases h
theorem Zvb {w w':World} {P:Program} {k:TypeId} {R:Value→Option (DataW Value × List MemPlace)} {b n B:Nat} {D:DataW Value} (h:w.ownsMap P k R b n D) (hb:Below B w w') (hlt:b < B):w'.ownsMap P k R b n D:=by
 obtain ⟨es,clock,h1,F,hs,hD⟩:=h
 exact ⟨es,clock,(hb.block b hlt).trans h1,F,hs,hD⟩
theorem Zxe {x:List UInt8} (h:x ≠ []):(str x).toList.isEmpty=false:=by
 rw[Zgc]
 cases x with
 | nil=>exact absurd rfl h
 | cons b x=>rfl
set_option maxRecDepth 100000 in
theorem text_w (s:ByteArray) (w:World) (hs:s.size≤140737488351232) (h0:0 < s.size) (ht:Tb8 w) :
 Calls Tryz.prog 68 #[.string s] w fun e w'=>e=.returned (resV (textL (s.data.toList.drop 1)))∧Below w.heap.size w w':=by
 rw[textL_eq]
 obtain ⟨R,HR⟩:=Zaf (endL (Zia (s.data.toList.drop 1) [] 1))
 rw[←HR.out]
 have hbel0:=Zac w (.cells (Zae Zan).toArray 46)
 have htok0:=Blk.new w (Zae Zan) 46
 obtain ⟨W0,hW0⟩:=Zaf (w.alloc (.cells (Zae Zan).toArray 46))
 have hWl:Hid (W0=w.alloc (.cells #[.int .u8 0,.string ⟨#[]⟩,.int .i64 0,.int .i64 0] 46)):=hW0
 have hs0:W0.heap.size=w.heap.size+1:=by rw[hW0.out];show (w.heap.push _).size=_;exact Array.size_push _
 rw[←hW0.out]at hbel0 htok0
 have hmap0:=World.ownsMap_made W0 Tryz.prog 5 Zvq
 have hbel1:=bt hbel0 (Zac W0 (.map #[] 0))
 have htok1:=htok0.alloc (.map #[] 0)
 rw[hs0]at hmap0
 have hs1:(W0.alloc (.map #[] 0)).heap.size=w.heap.size+2:=by show (W0.heap.push _).size=_;rw[Array.size_push,hs0]
 obtain ⟨M1,p1,m1,g1⟩:=Znh (W0.alloc (.map #[] 0)) (w.heap.size+1) [] 34 (by decide) ⟨#[34]⟩ (by decide) hmap0
 obtain ⟨M2,p2,m2,g2⟩:=Znh M1 (w.heap.size+1) _ 92 (by decide) ⟨#[92]⟩ (by decide) m1
 obtain ⟨M3,p3,m3,g3⟩:=Znh M2 (w.heap.size+1) _ 110 (by decide) ⟨#[10]⟩ (by decide) m2
 obtain ⟨M4,p4,m4,g4⟩:=Znh M3 (w.heap.size+1) _ 116 (by decide) ⟨#[9]⟩ (by decide) m3
 obtain ⟨M5,p5,m5,g5⟩:=Znh M4 (w.heap.size+1) _ 48 (by decide) ⟨#[0]⟩ (by decide) m4
 obtain ⟨M6,p6,m6,g6⟩:=Znh M5 (w.heap.size+1) _ 42 (by decide) ⟨#[92,42]⟩ (by decide) m5
 have g:(W0.alloc (.map #[] 0)).grownBy M6 (some (w.heap.size+1)):=((((g1.trans g2).trans g3).trans g4).trans g5).trans g6
 replace p1:(Instr.mapUpdate 133 (.map (some (w.heap.size+1))) (.int .u8 34) (.string ⟨#[34]⟩)).run Tryz.prog (W0.alloc (.map #[] 0))=.ok () M1:=p1
 replace p2:(Instr.mapUpdate 133 (.map (some (w.heap.size+1))) (.int .u8 92) (.string ⟨#[92]⟩)).run Tryz.prog M1=.ok () M2:=p2
 replace p3:(Instr.mapUpdate 133 (.map (some (w.heap.size+1))) (.int .u8 110) (.string ⟨#[10]⟩)).run Tryz.prog M2=.ok () M3:=p3
 replace p4:(Instr.mapUpdate 133 (.map (some (w.heap.size+1))) (.int .u8 116) (.string ⟨#[9]⟩)).run Tryz.prog M3=.ok () M4:=p4
 replace p5:(Instr.mapUpdate 133 (.map (some (w.heap.size+1))) (.int .u8 48) (.string ⟨#[0]⟩)).run Tryz.prog M4=.ok () M5:=p5
 replace p6:(Instr.mapUpdate 133 (.map (some (w.heap.size+1))) (.int .u8 42) (.string ⟨#[92,42]⟩)).run Tryz.prog M5=.ok () M6:=p6
 have m6':M6.ownsMap Tryz.prog 5 Zvq (w.heap.size+1) 6 (escD Zpx):=m6
 have htok6:Blk M6 w.heap.size (Zae Zan) 46:=(g.block w.heap.size htok1.lt (fun e=>by have:=Option.some.inj e;omega)).trans htok1
 have hbel6:Below w.heap.size w M6:=hbel1.grown g hbel1.size (fun j hj=>by have:=Option.some.inj hj;omega)
 have hs6:w.heap.size+2≤M6.heap.size:=by have:=g.size;omega
 clear m1 m2 m3 m4 m5 m6 g1 g2 g3 g4 g5 g6 hmap0 htok0 hbel0 htok1 hbel1
 have hbld:=Lib.fresh_isBuilder 53 5 M6
 have hbel7:=bt hbel6 (Zac M6 (.cells #[.pointer none,.slice none 0 0] 53))
 have htok7:=htok6.alloc (.cells #[.pointer none,.slice none 0 0] 53)
 have hmap7:=m6'.alloc (.cells #[.pointer none,.slice none 0 0] 53)
 obtain ⟨B,hB⟩:=Zaf M6.heap.size
 have hBw:B≤(M6.alloc (.cells #[.pointer none,.slice none 0 0] 53)).heap.size:=by rw[hB.out];show _≤(M6.heap.push _).size;rw[Array.size_push];omega
 rw[←hB.out]at hbld hs6
 obtain ⟨W7,hW7⟩:=Zaf (M6.alloc (.cells #[.pointer none,.slice none 0 0] 53))
 rw[←hW7.out]at hbld hbel7 htok7 hmap7 hBw
 clear g hbel6 htok6 m6'
 have HB:=Zai hbld
 have HT:=Zai htok7
 have HM:=Zai hmap7
 have HBW:=Zai hBw
 clear hbld htok7 hmap7 hBw
 have hmm:=@run_makeMap Tryz.prog
 go_enter Tryz.func68,Tryz.ntmps68
 go_upto_region 1 with (first|(at_builtin;fail))
 rw[←hWl.out]
 clear hW0 hWl
 go_upto_region 3 with (first|(at_builtin;fail))
 rw[←hB.out,←hW7.out]
 clear p1 p2 p3 p4 p5 p6 hmm hs0 hs1 hB hW7
 go_wp2_with (first|(at_builtin;fail))
 go_loopw [7,8] (fun t _ wr=>∃ (n:Nat) (acc:List UInt8),1≤n∧n≤s.size∧acc.length≤n∧t=.int .i64 n∧Hid (R=endL (Zia (s.data.toList.drop n) acc n))∧Hid (Lib.IsBuilder 53 5 B B (bcs acc) wr)∧Hid (Blk wr w.heap.size (Zae Zan) 46)∧Hid (wr.ownsMap Tryz.prog 5 Zvq (w.heap.size+1) 6 (escD Zpx))∧Hid (B≤wr.heap.size)∧Below w.heap.size w wr) (fun t _ _=>s.size - (intOf t).toNat)
 case atStart=>exact ⟨1,[],by omega,by omega,by simp,rfl,HR,HB,HT,HM,HBW,hbel7⟩
 case round=>
  obtain ⟨n,acc,hn1,hn,hacc,rfl,HR,HB,HT,HM,HBW,hbw⟩:=hrel
  by_cases hlt:n < s.size
  · have hi0:(0:Int)≤(n:Int):=by omega
    have hi1:(n:Int) < (s.size:Int):=by omega
    have hd:=Zja s n hlt
    obtain ⟨c,hc⟩:=Zaf s[n]
    have hsx:s.extract n (n+1)=str [c]:=by
     rw[Zdy,hd,hc.out,show n+1 - n=1 by omega]
     rfl
    have hHR:=HR.out
    rw[hd,←hc.out]at hHR
    by_cases q34:c.toNat=34
    · have hq:((s[n].toNat:Int) != 34)=false:=by rw[←hc.out,q34];rfl
      have HR2:Hid (R=endL (some (acc,n,true))):=by
       refine Zai ?_
       rw[hHR,lit_quote q34]
      clear hd hHR HR hsx hc
      have hstr:=Tryz.Builder_String_any B B acc wr HB.out HBW.out
      go_wp2_with (first|(at_builtin;fail))
      refine hstr.mono ?_
      rintro e1 w1 ⟨rfl,hb1⟩
      clear hstr
      have k0:Blk w1 w.heap.size (Zae Zan) 46:=(hb1.block _ (by omega)).trans HT.out
      have hbw1:Below w.heap.size w w1:=hbw.trans (hb1.mono (by omega))
      have k9:=Blk.new w1 (Zae Zan) 46
      have hsz1:w.heap.size < w1.heap.size:=k0.lt
      go_upto_region 16 with (first
       | (at_builtin;fail)
       | refine wpList_store_row rfl 46 _ _ rfl _ (Zae ⟨3,acc,0,0⟩).toArray rfl rfl 46 (Zae Zan).toArray k9 (kT4 rfl) rfl (Zay _) ?_)
      obtain ⟨W9,hW9⟩:=Zaf ((w1.alloc (.cells #[.int .u8 0,.string ⟨#[]⟩,.int .i64 0,.int .i64 0] 46)).setRow w1.heap.size (Zae ⟨3,acc,0,0⟩).toArray)
      have hb9:Below w.heap.size w W9:=by rw[hW9.out];exact Zah (bt hbw1 (Zac w1 _)) (by omega) _
      have k9':Blk W9 w1.heap.size (Zae ⟨3,acc,0,0⟩) 46:=by rw[hW9.out];exact k9.vrow _
      replace k0:Blk W9 w.heap.size (Zae Zan) 46:=by
       rw[hW9.out]
       exact (Zch _ _ _ _ (by omega)).trans (k0.alloc _)
      rw[←hW9.out]
      clear hW9 k9 hbw1 hb1
      have c1:W9.cell? ⟨w1.heap.size,1,none⟩=some (.string (str acc)):=k9'.cell 1
      have hge:¬ (s.size:Int)≤(n:Int):=by omega
      have hva:=Zop (str acc) W9 (by rw[Zbo];omega) (ht.below hb9).tb
      rw[Zax]at hva
      have hls:((str acc).size:Int)=(acc.length:Int):=by rw[Zbo]
      cases hV:Lib.validD acc with
      | false=>
        rw[hV]at hva
        have HQ:Hid (R=.error 6):=by
         refine Zai ?_
         rw[HR2.out,Zpz,if_pos hV]
        clear HR2
        go_upto_region 18 with (first
         | (at_builtin;fail))
        go_wp2_with (first|(at_builtin;fail))
        refine hva.mono ?_
        rintro e2 w2 ⟨rfl,hb2⟩
        replace k0:=k0.below hb2
        replace hb9:=bt hb9 hb2
        clear hva c1 k9'
        go_wp2_with (first
         | (at_builtin;fail)
         | refine wpList_store_row rfl 46 _ _ rfl _ (Zae Zan).toArray rfl rfl 46 (Zae Zan).toArray k0 (kT4 rfl) rfl (Zay _) ?_)
        exact bodyPost_ret (Zhz rfl _ rfl (k0.vrow (Zae Zan)) rfl rfl rfl) rfl ⟨by rw[HQ.out];rfl,Zah hb9 (Nat.le_refl _) _⟩
      | true=>
        rw[hV]at hva
        go_wp2_with (first|(at_builtin;fail))
        refine hva.mono ?_
        rintro e2 w2 ⟨rfl,hb2⟩
        replace k0:=k0.below hb2
        replace k9':=k9'.below hb2
        replace hb9:=bt hb9 hb2
        replace c1:w2.cell? ⟨w1.heap.size,1,none⟩=some (.string (str acc)):=k9'.cell 1
        clear hva
        by_cases hL:256 < acc.length
        · have hL1:(256:Int) < ((str acc).size:Int):=by rw[hls];omega
          have HQ:Hid (R=.error 3):=by
           refine Zai ?_
           rw[HR2.out,Zpz,if_neg (by rw[hV];decide),if_pos hL]
          clear HR2 hls
          go_wp2_with (first
           | (at_builtin;fail)
           | refine wpList_store_row rfl 46 _ _ rfl _ (Zae Zan).toArray rfl rfl 46 (Zae Zan).toArray k0 (kT4 rfl) rfl (Zay _) ?_)
          exact bodyPost_ret (Zhz rfl _ rfl (k0.vrow (Zae Zan)) rfl rfl rfl) rfl ⟨by rw[HQ.out];rfl,Zah hb9 (Nat.le_refl _) _⟩
        · have hL1:¬ (256:Int) < ((str acc).size:Int):=by rw[hls];omega
          have HQ:Hid (R=.ok (⟨3,acc,0,0⟩,n+1)):=by
           refine Zai ?_
           rw[HR2.out,Zpz,if_neg (by rw[hV];decide),if_neg hL]
          clear HR2 hls
          go_wp2_with (first
           | (at_builtin;fail)
           | refine wpList_load_row rfl 46 _ rfl _ rfl 46 (Zae ⟨3,acc,0,0⟩).toArray (0,0) _ k9' Tryz.underlying46 rfl (kT4 rfl) ?_
           | refine wpList_store_row rfl 46 _ _ rfl _ (Zae ⟨3,acc,0,0⟩).toArray rfl rfl 46 (Zae Zan).toArray k0 (kT4 rfl) rfl (Zay _) ?_)
          exact bodyPost_ret (Zhz rfl _ rfl (k0.vrow (Zae ⟨3,acc,0,0⟩)) rfl rfl rfl) rfl ⟨by rw[HQ.out];rfl,Zah hb9 (Nat.le_refl _) _⟩
    · have hq:((s[n].toNat:Int) != 34)=true:=by
       rw[←hc.out,bne_iff_ne]
       omega
      by_cases q92:c.toNat=92
      · obtain rfl:c=92:=UInt8.toNat_inj.1 q92
        have ht92:((str [92]).toList == [92])=true:=by rw[Zgc];rfl
        by_cases hlt2:n+1 < s.size
        · have hi2:(n:Int)+1 < (s.size:Int):=by omega
          have hi3:(0:Int)≤(n:Int)+1:=by omega
          have hd2:=Zja s (n+1) hlt2
          obtain ⟨c2,hc2⟩:=Zaf s[n+1]
          have hlook0:=esc_look wr (w.heap.size+1) s[n+1] HM.out
          rw[hd2,←hc2.out,lit_stroke (by decide)]at hHR
          cases hx:escL c2 with
          | none=>
            rw[hx]at hHR
            rw[←hc2.out]at hlook0
            rw[hx]at hlook0
            have hlook:(Instr.lookup 133 (.map (some (w.heap.size+1))) (.int .u8 (s[n+1].toNat:Int)) false).run Tryz.prog wr=.ok (.string (str [])) wr:=by rw[←hc2.out];exact hlook0
            have HN:Hid (R=.error 5):=Zai hHR
            have hemp:(str []).toList.isEmpty=true:=by rw[Zgc];rfl
            clear hd hd2 hHR HR hc hc2 hlook0
            have k0:=HT.out
            have HQ:Hid (R=.error 5):=Zai HN.out
            have hb9:=hbw
            go_wp2_with (first
             | (at_builtin;fail)
             | refine wpList_store_row rfl 46 _ _ rfl _ (Zae Zan).toArray rfl rfl 46 (Zae Zan).toArray k0 (kT4 rfl) rfl (Zay _) ?_)
            exact bodyPost_ret (Zhz rfl _ rfl (k0.vrow (Zae Zan)) rfl rfl rfl) rfl ⟨by rw[HQ.out];rfl,Zah hb9 (Nat.le_refl _) _⟩
          | some x=>
            rw[hx]at hHR
            rw[←hc2.out]at hlook0
            rw[hx]at hlook0
            have hlook:(Instr.lookup 133 (.map (some (w.heap.size+1))) (.int .u8 (s[n+1].toNat:Int)) false).run Tryz.prog wr=.ok (.string (str x)) wr:=by rw[←hc2.out];exact hlook0
            have HN:=Zai hHR
            obtain ⟨hxn,hxl⟩:=esc_len hx
            have hne0:=Zxe hxn
            clear hd hd2 hHR HR hc hc2 hlook0
            have hws:=Zlo B B (bcs acc) (str x) wr HB.out (by rw[Znl,Zbo];have:=hxl;omega) HBW.out
            rw[Zyl]at hws
            have hne:=hne0
            go_wp2_with (first|(at_builtin;fail))
            refine hws.mono ?_
            rintro e1 w1 ⟨rfl,hB1,hb1⟩
            clear hws
            have hsz1:w.heap.size < B:=by omega
            have k0:Blk w1 w.heap.size (Zae Zan) 46:=(hb1.block _ (by omega)).trans HT.out
            have m1:=Zvb HM.out hb1 (by omega)
            have hbw1:Below w.heap.size w w1:=hbw.trans (hb1.mono (by omega))
            have hbs:=hb1.size
            have hbw9:=HBW.out
            go_wp2_with (first|(at_builtin;fail))
            go_roundw
            case rel=>exact ⟨n+2,acc ++ x,by omega,by omega,by rw[List.length_append];have:=hxl;omega,by go_num,HN,hB1,k0,m1,Zai (by omega),hbw1⟩
            case measure=>simp[intOf];omega
        · have hi2:¬ (n:Int)+1 < (s.size:Int):=by omega
          have hd2:s.data.toList.drop (n+1)=[]:=List.eq_nil_of_length_eq_zero (by rw[List.length_drop,←Lib.size_eq];omega)
          rw[hd2,Zqm (by decide)]at hHR
          have HN:Hid (R=.error 5):=Zai hHR
          clear hd hd2 hHR HR hc
          have k0:=HT.out
          have HQ:Hid (R=.error 5):=Zai HN.out
          have hb9:=hbw
          go_wp2_with (first
           | (at_builtin;fail)
           | refine wpList_store_row rfl 46 _ _ rfl _ (Zae Zan).toArray rfl rfl 46 (Zae Zan).toArray k0 (kT4 rfl) rfl (Zay _) ?_)
          exact bodyPost_ret (Zhz rfl _ rfl (k0.vrow (Zae Zan)) rfl rfl rfl) rfl ⟨by rw[HQ.out];rfl,Zah hb9 (Nat.le_refl _) _⟩
      · have h92:((str [c]).toList == [92])=false:=by
         rw[Zgc,beq_eq_false_iff_ne]
         intro e
         cases e
         exact q92 rfl
        by_cases q10:c.toNat=10
        · obtain rfl:c=10:=UInt8.toNat_inj.1 q10
          have ht10:((str [10]).toList == [10])=true:=by rw[Zgc];rfl
          rw[lit_nl (by decide)]at hHR
          have HN:Hid (R=.error 5):=Zai hHR
          clear hd hHR HR hc
          have k0:=HT.out
          have HQ:Hid (R=.error 5):=Zai HN.out
          have hb9:=hbw
          go_wp2_with (first
           | (at_builtin;fail)
           | refine wpList_store_row rfl 46 _ _ rfl _ (Zae Zan).toArray rfl rfl 46 (Zae Zan).toArray k0 (kT4 rfl) rfl (Zay _) ?_)
          exact bodyPost_ret (Zhz rfl _ rfl (k0.vrow (Zae Zan)) rfl rfl rfl) rfl ⟨by rw[HQ.out];rfl,Zah hb9 (Nat.le_refl _) _⟩
        · have h10:((str [c]).toList == [10])=false:=by
           rw[Zgc,beq_eq_false_iff_ne]
           intro e
           cases e
           exact q10 rfl
          rw[lit_plain q34 q92 q10]at hHR
          have HN:=Zai hHR
          have hne1:=Zxe (x:=[c]) (by simp)
          clear hd hHR HR hc
          have hws:=Zlo B B (bcs acc) (str [c]) wr HB.out (by rw[Znl,Zbo];have:=(show [c].length=1 from rfl);omega) HBW.out
          rw[Zyl]at hws
          have hne:=hne1
          go_wp2_with (first|(at_builtin;fail))
          refine hws.mono ?_
          rintro e1 w1 ⟨rfl,hB1,hb1⟩
          clear hws
          have hsz1:w.heap.size < B:=by omega
          have k0:Blk w1 w.heap.size (Zae Zan) 46:=(hb1.block _ (by omega)).trans HT.out
          have m1:=Zvb HM.out hb1 (by omega)
          have hbw1:Below w.heap.size w w1:=hbw.trans (hb1.mono (by omega))
          have hbs:=hb1.size
          have hbw9:=HBW.out
          go_wp2_with (first|(at_builtin;fail))
          go_roundw
          case rel=>exact ⟨n+1,acc ++ [c],by omega,by omega,by rw[List.length_append];have:=(show [c].length=1 from rfl);omega,by go_num,HN,hB1,k0,m1,Zai (by omega),hbw1⟩
          case measure=>simp[intOf];omega
  · have hi1:¬ (n:Int) < (s.size:Int):=by omega
    have HQ:Hid (R=.error 5):=by
     refine Zai ?_
     have hd:s.data.toList.drop n=[]:=List.eq_nil_of_length_eq_zero (by rw[List.length_drop,←Lib.size_eq];omega)
     rw[HR.out,hd]
     rfl
    clear HR
    have hstr:=Tryz.Builder_String_any B B acc wr HB.out HBW.out
    go_wp2_with (first|(at_builtin;fail))
    refine hstr.mono ?_
    rintro e1 w1 ⟨rfl,hb1⟩
    clear hstr
    have k0:Blk w1 w.heap.size (Zae Zan) 46:=(hb1.block _ (by omega)).trans HT.out
    have hbw1:Below w.heap.size w w1:=hbw.trans (hb1.mono (by omega))
    have k9:=Blk.new w1 (Zae Zan) 46
    have hsz1:w.heap.size < w1.heap.size:=k0.lt
    go_upto_region 16 with (first
     | (at_builtin;fail)
     | refine wpList_store_row rfl 46 _ _ rfl _ (Zae ⟨3,acc,0,0⟩).toArray rfl rfl 46 (Zae Zan).toArray k9 (kT4 rfl) rfl (Zay _) ?_)
    obtain ⟨W9,hW9⟩:=Zaf ((w1.alloc (.cells #[.int .u8 0,.string ⟨#[]⟩,.int .i64 0,.int .i64 0] 46)).setRow w1.heap.size (Zae ⟨3,acc,0,0⟩).toArray)
    have hb9:Below w.heap.size w W9:=by rw[hW9.out];exact Zah (bt hbw1 (Zac w1 _)) (by omega) _
    have k9':Blk W9 w1.heap.size (Zae ⟨3,acc,0,0⟩) 46:=by rw[hW9.out];exact k9.vrow _
    replace k0:Blk W9 w.heap.size (Zae Zan) 46:=by
     rw[hW9.out]
     exact (Zch _ _ _ _ (by omega)).trans (k0.alloc _)
    rw[←hW9.out]
    clear hW9 k9 hbw1 hb1
    have c1:W9.cell? ⟨w1.heap.size,1,none⟩=some (.string (str acc)):=k9'.cell 1
    have hge:(s.size:Int)≤(n:Int):=by omega
    go_wp2_with (first
     | (at_builtin;fail)
     | refine wpList_store_row rfl 46 _ _ rfl _ (Zae Zan).toArray rfl rfl 46 (Zae Zan).toArray k0 (kT4 rfl) rfl (Zay _) ?_)
    exact bodyPost_ret (Zhz rfl _ rfl (k0.vrow (Zae Zan)) rfl rfl rfl) rfl ⟨by rw[HQ.out];rfl,Zah hb9 (Nat.le_refl _) _⟩
open Go.RowKit
structure TOk (T:TypeId) (n:Nat):Prop where
 lies:liesAt Tryz.prog Tryz.prog.depth T (n / Tryz.prog.cellsOf T) 0 53 1=true
 ne:T ≠ 5
theorem Zot:TOk 55 2:=⟨by kernel_rfl,by decide⟩
def Small (w:World) (k:Nat):Prop:=∀ cs fz,¬ w.heap[k]?=some (.cells cs 5 fz)
def Zjc (B b:Nat) (P:Nat→Prop) (v:Value) (bs:List Value) (w:World):Prop:=
 w.ownsRow B 5 1 v bs.length bs∧v.ownBlock ≠ some b∧(bs=[]→v=.slice none 0 0)∧∀ k,P k→k < w.heap.size∧k ≠ b∧Small w k∧v.ownBlock ≠ some k
def BuT (T:TypeId) (ex:List Value) (B b:Nat) (P:Nat→Prop) (bs:List Value) (w:World):Prop:=
 B≤b∧∃ p v,(p=.pointer none∨p=.pointer (some ⟨b,0,none⟩))∧Blk w b (p :: v :: ex) T∧Zjc B b P v bs w
def KP (B:Nat) (P:Nat→Prop) (w w':World):Prop:=(∀ k,P k→w'.heap[k]?=w.heap[k]?)∧Below B w w'
section
variable {B g:Nat} {P Q:Nat→Prop} {w w' u:World}
theorem KP.refl (B:Nat) (P:Nat→Prop) (w:World):KP B P w w:=⟨fun _ _=>rfl,Below.refl _ _⟩
theorem KP.trans (h:KP B P w w') (k:KP B P w' u):KP B P w u:=⟨fun i hi=>(k.1 i hi).trans (h.1 i hi),h.2.trans k.2⟩
theorem KP.of (hb:Below w.heap.size w w') (hg:B≤w.heap.size) (hP:∀ k,P k→k < w.heap.size):KP B P w w':=⟨fun k hk=>hb.block k (hP k hk),hb.mono hg⟩
theorem KP.drew (h:KP B P w w'):KP B P w w'.drew:=⟨h.1,Below.drew h.2⟩
theorem KP.set (h:KP B P w w') (hg:B≤g) (hP:∀ k,P k→k ≠ g) (i:Nat) (v:Value):KP B P w (w'.setCell ⟨g,i,none⟩ v):=⟨fun k hk=>(Below.heap_setCell _ _ _ _ (hP k hk)).trans (h.1 k hk),h.2.setCell (p:=⟨g,i,none⟩) hg v⟩
theorem KP.size (h:KP B P w w'):w.heap.size≤w'.heap.size:=h.2.size
theorem KP.weak (h:KP B P w w') (hQ:∀ k,Q k→P k):KP B Q w w':=⟨fun k hk=>h.1 k (hQ k hk),h.2⟩
theorem KP.grown {w1 w2:World} {v:Value} {n:Nat} {xs:List Value} (h:KP B P w w1) (hown:w1.ownsRow B 5 1 v n xs) (hg:w1.grownBy w2 v.ownBlock) (hB:B≤w1.heap.size) (hP:∀ k,P k→k < w1.heap.size∧v.ownBlock ≠ some k):KP B P w w2:=
 ⟨fun k hk=>(hg.block k (hP k hk).1 (fun e=>(hP k hk).2 e.symm)).trans (h.1 k hk),h.2.grown hg hB fun k hk=>(hown.lt k hk).1⟩
end
theorem Zva {w:World} {B B' n:Nat} {v:Value} {xs:List Value} (h:w.ownsRow B' 5 1 v n xs) (hB:B≤B'):w.ownsRow B 5 1 v n xs:=by
 refine ⟨h.1,?_⟩
 rcases h.2 with h'|⟨g,cap,cur,hv,hg,h'⟩
 · exact .inl h'
 · exact .inr ⟨g,cap,cur,hv,Nat.le_trans hB hg,h'⟩
theorem Zxr {w:World} {B B' n:Nat} {v:Value} {xs:List Value} (h:w.ownsRow B 5 1 v n xs) (hv:v=.slice none 0 0):w.ownsRow B' 5 1 v n xs:=by
 subst hv
 refine ⟨h.1,?_⟩
 rcases h.2 with h'|⟨g,cap,cur,hv,_⟩
 · exact .inl h'
 · cases hv
section
variable {B b:Nat} {P Q:Nat→Prop} {v:Value} {bs:List Value} {w w':World}
theorem Zjc.keep (h:Zjc B b P v bs w) (hk:∀ k,k < w.heap.size→k ≠ b→w'.heap[k]?=w.heap[k]?) (hs:w.heap.size≤w'.heap.size):Zjc B b P v bs w':=by
 obtain ⟨h1,h2,h3,h4⟩:=h
 refine ⟨⟨h1.1,?_⟩,h2,h3,fun k hP=>?_⟩
 · rcases h1.2 with h'|⟨g,cap,cur,hv,hg,hh,h'⟩
   · exact .inl h'
   · refine .inr ⟨g,cap,cur,hv,hg,(hk g (Array.getElem?_eq_some_iff.1 hh).1 (fun e=>h2 (by rw[hv,e];rfl))).trans hh,h'⟩
 · obtain ⟨a1,a2,a3,a4⟩:=h4 k hP
   exact ⟨Nat.lt_of_lt_of_le a1 hs,a2,fun cs fz hc=>a3 cs fz ((hk k a1 a2).symm.trans hc),a4⟩
theorem Zjc.kp (h:Zjc B b P v bs w) (hk:KP B P w w'):∀ k,P k→w'.heap[k]?=w.heap[k]?:=hk.1
theorem Zjc.weak (h:Zjc B b P v bs w) (hQ:∀ k,Q k→P k):Zjc B b Q v bs w:=⟨h.1,h.2.1,h.2.2.1,fun k hk=>h.2.2.2 k (hQ k hk)⟩
theorem Zjc.base (h:Zjc B b P v bs w) (hB:B≤w.heap.size):∃ B',B≤B'∧B'≤w.heap.size∧w.ownsRow B' 5 1 v bs.length bs∧(bs=[]→B'=w.heap.size):=by
 by_cases hb:bs=[]
 · exact ⟨w.heap.size,hB,Nat.le_refl _,Zxr h.1 (h.2.2.1 hb),fun _=>rfl⟩
 · exact ⟨B,Nat.le_refl _,hB,h.1,fun e=>absurd e hb⟩
theorem Zjc.app {B' m:Nat} {v':Value} {news:List Value} {T:TypeId} {cs:List Value} (h:Zjc B b P v bs w) (hB:B≤B') (hnil:bs=[]→B'=w.heap.size) (hl:news.length=m)
 (hown:w'.ownsRow B' 5 1 v' (bs.length+m) (bs ++ news)) (hg:w.grownBy w' v.ownBlock) (hv:v=.slice none 0 0→m=0→v'=.slice none 0 0) (hb:Blk w' b cs T) (hT:T ≠ 5):Zjc B b P v' (bs ++ news) w':=by
 refine ⟨?_,own_blk_ne hown hb (Ne.symm hT),fun e=>?_,fun k hP=>?_⟩
 · rw[List.length_append,hl];exact Zva hown hB
 · obtain ⟨e1,e2⟩:=List.append_eq_nil_iff.1 e
   exact hv (h.2.2.1 e1) (by rw[←hl,e2];rfl)
 · obtain ⟨a1,a2,a3,a4⟩:=h.2.2.2 k hP
   have hk:w'.heap[k]?=w.heap[k]?:=hg.block k a1 (fun e=>a4 e.symm)
   refine ⟨Nat.lt_of_lt_of_le a1 hg.size,a2,fun cs fz hc=>a3 cs fz (hk.symm.trans hc),?_⟩
   rcases hown.2 with ⟨rfl,_⟩|⟨g',cap,cur,rfl,hg',hh,hn,_,hcs,_⟩
   · simp[Value.ownBlock]
   · intro e
     obtain rfl:g'=k:=by simpa [Value.ownBlock] using e
     exact a3 cur (0,0) (hk.symm.trans hh)
end
theorem Blk.shape {w:World} {b:Nat} {vs:List Value} {T:TypeId} (h:Blk w b vs T):w.shape? b=some (T,vs.length):=by
 have h':w.heap[b]?=some (.cells vs.toArray T (0,0)):=h
 simp[World.shape?,h']
section
variable {T:TypeId} {ex:List Value}
set_option maxRecDepth 100000 in
theorem Zwf (b:Nat) (w:World) (h0:w.cell? ⟨b,0,none⟩=some (.pointer (some ⟨b,0,none⟩))) :
 Calls Tryz.prog 112 #[.pointer (some ⟨b,0,none⟩)] w fun e w'=>e=.returned (.tuple #[])∧w'=w:=by
 obtain ⟨j,hj,_⟩:=Option.map_eq_some_iff.1 Tryz.sizeBuilder
 go_enter Tryz.func112,Tryz.ntmps112
 go_wp2
 rw[Lib.run_neq_ptr_same w _ Tryz.underlying50 hj]
 go_wp2
 go_end0
 exact ⟨rfl,rfl⟩
set_option maxRecDepth 100000 in
theorem Zwg (b n:Nat) (w:World) (hT:TOk T n) (h0:w.cell? ⟨b,0,none⟩=some (.pointer none)) (hn:0 < n) (hsh:w.shape? b=some (T,n)) (hfz:w.frozen? ⟨b,0,none⟩=false) :
 Calls Tryz.prog 112 #[.pointer (some ⟨b,0,none⟩)] w fun e w'=>e=.returned (.tuple #[])∧w'=w.setCell ⟨b,0,none⟩ (.pointer (some ⟨b,0,none⟩)):=by
 obtain ⟨j,hj,hjs⟩:=Option.map_eq_some_iff.1 Tryz.sizeBuilder
 go_enter Tryz.func112,Tryz.ntmps112
 go_wp2
 rw[Lib.run_to_unsafe w ⟨b,0,none⟩ Tryz.underlying50 Tryz.underlying173 hj (by rw[hjs];decide) hsh hn]
 simp only[Result.andThen]
 rw[Oper.upon_value]
 go_wp2
 rw[run_callFunc_extern Tryz.func142 (by kernel_rfl) (by kernel_rfl) (by kernel_rfl) (e:=Extern.AbiNoEscape.same) (by kernel_rfl)]
 rw[Lib.run_noEscape]
 simp only[Result.andThen]
 rw[Oper.upon_value]
 go_wp2
 rw[Lib.run_from_unsafe w ⟨b,0,none⟩ Tryz.underlying173 Tryz.underlying50 hj hsh hT.lies]
 simp only[Result.andThen]
 rw[Oper.upon_value]
 go_wp2
 go_end0
 exact ⟨rfl,rfl⟩
theorem checkT {P:Nat→Prop} (B b:Nat) (bs:List Value) (w:World) (h:BuT T ex B b P bs w) (hT:TOk T (ex.length+1+1)) :
 Calls Tryz.prog 112 #[.pointer (some ⟨b,0,none⟩)] w fun e w'=>e=.returned (.tuple #[])∧(∃ v,Blk w' b (.pointer (some ⟨b,0,none⟩) :: v :: ex) T∧Zjc B b P v bs w')∧KP B P w w':=by
 obtain ⟨hB,p,v,hp,hb,hrow⟩:=h
 have hP:∀ k,P k→k ≠ b:=fun k hk=>(hrow.2.2.2 k hk).2.1
 rcases hp with rfl|rfl
 · refine (Zwg b _ w hT (by rw[hb.cell];rfl) (Nat.succ_pos _) hb.shape (hb.free 0)).mono ?_
   rintro e w' ⟨rfl,rfl⟩
   exact ⟨rfl,⟨v,hb.set 0 _,hrow.keep (fun k _ hk=>Below.heap_setCell _ _ _ _ hk) (by simp[World.setCell])⟩,(KP.refl B P w).set hB hP 0 _⟩
 · refine (Zwf b w (by rw[hb.cell];rfl)).mono ?_
   rintro e w' ⟨rfl,rfl⟩
   exact ⟨rfl,⟨v,hb,hrow⟩,KP.refl B P _⟩
set_option maxRecDepth 100000 in
theorem writeByteT {P:Nat→Prop} (B b:Nat) (bs:List Value) (c:Int) (w:World) (h:BuT T ex B b P bs w) (hT:TOk T (ex.length+1+1)) (hlen:bs.length+1≤140737488355328) :
 Calls Tryz.prog 71 #[.pointer (some ⟨b,0,none⟩),.int .u8 c] w fun e w'=>e=.returned .nilIface∧BuT T ex B b P (bs ++ [.int .u8 c]) w'∧KP B P w w':=by
 obtain ⟨i0,hi,hz0,hz1,hz2⟩:=info_parts Tryz.info5
 have hB:=h.1
 go_enter Tryz.func71,Tryz.ntmps71
 go_wp2_with (go_at_call 112;refine (checkT B b bs _ h hT).mono ?_)
 rintro e w1 ⟨rfl,⟨v,hbk,hrow⟩,kb⟩
 have c0:w1.cell? ⟨b,0,none⟩=some (.pointer (some ⟨b,0,none⟩)):=by rw[hbk.cell];rfl
 have c1:w1.cell? ⟨b,1,none⟩=some v:=by rw[hbk.cell];rfl
 have hlt:=hbk.lt
 have ha:=Zac w1 (.cells #[.int .u8 c] 5)
 have hr1:Zjc B b P v bs (w1.alloc (.cells #[.int .u8 c] 5)):=hrow.keep (fun k hk _=>ha.block k hk) ha.size
 obtain ⟨B',hB1,hB2,hown,hnil⟩:=hr1.base (by have:=ha.size;omega)
 go_wp2_with (at_builtin;refine wpList_append_own _ rfl _ _ 51 rfl B' 5 i0 (.int .u8 0) 1 1 Tryz.underlying51 hi hz0 hz1 hz2 rfl (by decide) _ _ _ rfl hown ⟨w1.heap.size,0,none⟩ 1 1 [.int .u8 c] rfl rfl ?c1 ?c2 ?c3 ?c4 ?c5 ?_)
 case c1=>
  intro j u hj
  match j,hj with
  | 0,hj=>simp at hj;subst hj;simp[Addr.add]
 case c2=>intro u hu;simp at hu;subst hu;rfl
 case c3=>unfold maxLen;omega
 case c4=>omega
 case c5=>exact hB2
 intro v' w2 hown' hgrow hv'
 have hb2:Blk w2 b (.pointer (some ⟨b,0,none⟩) :: v :: ex) T:=
  (hgrow.block b (by simp;omega) (fun e=>hrow.2.1 e.symm)).trans ((Lib.alloc_old w1 _ b hlt).trans hbk)
 have d0:w2.cell? ⟨b,0,none⟩=some (.pointer (some ⟨b,0,none⟩)):=by rw[hb2.cell];rfl
 have d1:w2.cell? ⟨b,1,none⟩=some v:=by rw[hb2.cell];rfl
 have f1:w2.frozen? ⟨b,1,none⟩=false:=hb2.free 1
 have hrow2:Zjc B b P v' (bs ++ [.int .u8 c]) w2:=hr1.app hB1 hnil rfl hown' hgrow (fun _ h=>absurd h (by simp)) hb2 hT.ne
 have hP:∀ k,P k→k ≠ b:=fun k hk=>(hrow.2.2.2 k hk).2.1
 have kb2:KP B P w w2:=(kb.trans (KP.of ha (by have:=kb.size;omega) fun k hk=>(hrow.2.2.2 k hk).1)).grown hr1.1 hgrow (by have:=ha.size;omega) fun k hk=>⟨(hr1.2.2.2 k hk).1,(hr1.2.2.2 k hk).2.2.2⟩
 have kb3:=kb2.set hB hP 1 v'
 have hrow3:Zjc B b P v' (bs ++ [.int .u8 c]) (w2.setCell ⟨b,1,none⟩ v'):=hrow2.keep (fun k _ hk=>Below.heap_setCell _ _ _ _ hk) (by simp[World.setCell])
 have hb3:=hb2.set 1 v'
 obtain ⟨g,cap,rfl⟩:∃ g cap,v'=.slice (some ⟨g,0,none⟩) (bs.length+1) cap:=by
  rcases hown'.2 with ⟨_,h0⟩|⟨g,cap,cur,hv,_⟩
  · omega
  · exact ⟨g,cap,hv⟩
 go_wp2
 go_ret
 exact ⟨rfl,⟨hB,_,_,.inr rfl,hb3,hrow3⟩,kb3⟩
set_option maxRecDepth 100000 in
theorem Ztv {P:Nat→Prop} (B b:Nat) (bs:List Value) (s:ByteArray) (w:World) (h:BuT T ex B b P bs w) (hT:TOk T (ex.length+1+1)) (hlen:bs.length+s.size≤140737488355328) :
 Calls Tryz.prog 73 #[.pointer (some ⟨b,0,none⟩),.string s] w fun e w'=>e=.returned (.tuple #[.int .i64 s.size,.nilIface])∧BuT T ex B b P (bs ++ bcs s.data.toList) w'∧KP B P w w':=by
 obtain ⟨i0,hi,hz0,hz1,hz2⟩:=info_parts Tryz.info5
 have hB:=h.1
 go_enter Tryz.func73,Tryz.ntmps73
 go_wp2_with (go_at_call 112;refine (checkT B b bs _ h hT).mono ?_)
 rintro e w1 ⟨rfl,⟨v,hbk,hrow⟩,kb⟩
 have c0:w1.cell? ⟨b,0,none⟩=some (.pointer (some ⟨b,0,none⟩)):=by rw[hbk.cell];rfl
 have c1:w1.cell? ⟨b,1,none⟩=some v:=by rw[hbk.cell];rfl
 have hlt:=hbk.lt
 obtain ⟨B',hB1,hB2,hown,hnil⟩:=hrow.base (by omega)
 go_wp2_with (at_builtin;refine Lib.wpList_append_own_string _ rfl _ _ 51 9 rfl B' 5 i0 Tryz.underlying51 Tryz.underlying9 hi hz0 hz1 hz2 _ _ _ rfl hown s rfl ?c3 ?c4 ?c5 ?_)
 case c3=>unfold maxLen;omega
 case c4=>omega
 case c5=>exact hB2
 intro v' w2 hown' hgrow hv'
 have hb2:Blk w2 b (.pointer (some ⟨b,0,none⟩) :: v :: ex) T:=(hgrow.block b hlt (fun e=>hrow.2.1 e.symm)).trans hbk
 have d0:w2.cell? ⟨b,0,none⟩=some (.pointer (some ⟨b,0,none⟩)):=by rw[hb2.cell];rfl
 have d1:w2.cell? ⟨b,1,none⟩=some v:=by rw[hb2.cell];rfl
 have f1:w2.frozen? ⟨b,1,none⟩=false:=hb2.free 1
 have hsc:Lib.strCells s=bcs s.data.toList:=by
  have:=Zyl [] s.data.toList
  rw[Zdh]at this
  simpa [bcs,Lib.byteCells] using this
 rw[hsc]at hown'
 have hrow2:Zjc B b P v' (bs ++ bcs s.data.toList) w2:=hrow.app hB1 hnil (by rw[Znl,Lib.size_eq]) hown' hgrow (fun e1 e2=>hv'.2 ⟨e1,by cases s with|mk a=>simp only[ByteArray.size,Array.size_eq_zero_iff]at e2;rw[e2];rfl⟩) hb2 hT.ne
 have hP:∀ k,P k→k ≠ b:=fun k hk=>(hrow.2.2.2 k hk).2.1
 have kb2:KP B P w w2:=kb.grown hrow.1 hgrow (by omega) fun k hk=>⟨(hrow.2.2.2 k hk).1,(hrow.2.2.2 k hk).2.2.2⟩
 have kb3:=kb2.set hB hP 1 v'
 have hrow3:Zjc B b P v' (bs ++ bcs s.data.toList) (w2.setCell ⟨b,1,none⟩ v'):=hrow2.keep (fun k _ hk=>Below.heap_setCell _ _ _ _ hk) (by simp[World.setCell])
 have hb3:=hb2.set 1 v'
 obtain ⟨ao,n',cap,rfl⟩:∃ ao n' cap,v'=.slice ao n' cap:=by
  rcases hown'.2 with ⟨hv,_⟩|⟨g,cap,cur,hv,_⟩
  · exact ⟨_,_,_,hv⟩
  · exact ⟨_,_,_,hv⟩
 go_wp2
 go_ret2
 exact ⟨rfl,⟨hB,_,_,.inr rfl,hb3,hrow3⟩,kb3⟩
theorem Tryz.cellsByte:Tryz.prog.cellsOf 5=1:=by kernel_rfl
set_option maxRecDepth 100000 in
theorem stringT {P:Nat→Prop} (B b:Nat) (l:List UInt8) (w:World) (h:BuT T ex B b P (bcs l) w) (hT:T ≠ 5) (h0:l ≠ []) :
 Calls Tryz.prog 22 #[.pointer (some ⟨b,0,none⟩)] w fun e w'=>e=.returned (.string (str l))∧KP B (fun k=>P k∨k=b) w w':=by
 obtain ⟨hB,p,v,_,hbk,hown,hne,_,hPr⟩:=h
 have hl0:l.length ≠ 0:=by simpa using h0
 rw[Znl]at hown
 obtain ⟨g,cap,cur,rfl,hbg,hg,hnc,hcm,hcs,htake⟩:∃ g cap cur,v=.slice (some ⟨g,0,none⟩) l.length cap∧B≤g∧w.heap[g]?=some (.cells cur 5 (0,0))∧l.length≤cap∧cap≤maxLen∧cur.size=cap * 1∧cur.toList.take (l.length * 1)=bcs l:=by
  rcases hown.2 with ⟨_,hz⟩|⟨g,cap,cur,hv,r⟩
  · exact absurd hz hl0
  · exact ⟨g,cap,cur,hv,r⟩
 have hbd:Blk w.drew b (p :: .slice (some ⟨g,0,none⟩) l.length cap :: ex) T:=hbk
 have c1:w.drew.cell? ⟨b,1,none⟩=some (.slice (some ⟨g,0,none⟩) l.length cap):=by rw[hbd.cell];rfl
 have hSD:(Builtin.unsafeSliceData_ #[51] 79 #[.slice (some ⟨g,0,none⟩) l.length cap]).run Tryz.prog w.drew=.ok (.pointer (some ⟨g,0,none⟩)) w.drew:=
  Lib.run_unsafeSliceData_row _ _ _ _ _ _ (by omega)
 have hUS:(Builtin.unsafeString_ #[79,3] 9 #[.pointer (some ⟨g,0,none⟩),.int .i64 l.length]).run Tryz.prog w.drew=.ok (.string ⟨l.toArray⟩) (w.drew.freeze ⟨g,0,none⟩ l.length):=by
  refine Lib.run_unsafeString_row w.drew 79 3 9 5 Tryz.underlying79 Tryz.cellsByte g cur.size (by have hg':w.drew.heap[g]?=some (.cells cur 5 (0,0)):=hg;simp[World.shape?,hg']) l h0 (by omega) (by unfold maxLen at hcm;omega) ?_
  intro j x hx
  have:=hown.cells (g:=g) rfl j (.int .u8 x.toNat) (by simp[bcs,Lib.byteCells,hx])
  exact this
 have hbl:=Lib.below_freeze (Below.drew (Below.refl B w)) (p:=⟨g,0,none⟩) hbg l.length
 have hfz:∀ k,k ≠ g→(w.drew.freeze ⟨g,0,none⟩ l.length).heap[k]?=w.heap[k]?:=fun k hk=>by
  unfold World.freeze
  split
  · rfl
  · simp only[Array.getElem?_modify]
    rw[if_neg (fun e=>hk e.symm)]
    rfl
 have ho:KP B (fun k=>P k∨k=b) w (w.drew.freeze ⟨g,0,none⟩ l.length):=⟨fun k hk=>by
  rcases hk with hk|rfl
  · exact hfz k (fun e=>(hPr k hk).2.2.2 (by rw[e];rfl))
  · exact hfz k (fun e=>hne (by rw[e];rfl)),hbl⟩
 go_enter Tryz.func22,Tryz.ntmps22
 go_wp2
 go_region
 all_goals (go_wp2;go_ret;exact ⟨rfl,ho⟩)
theorem BuT.below {P:Nat→Prop} {B b:Nat} {bs:List Value} {w w':World} (h:BuT T ex B b P bs w) (hb:Below w.heap.size w w'):BuT T ex B b P bs w':=by
 obtain ⟨h1,p,v,h2,h3,h4⟩:=h
 exact ⟨h1,p,v,h2,h3.below hb,h4.keep (fun k hk _=>hb.block k hk) hb.size⟩
theorem BuT.weak {P Q:Nat→Prop} {B b:Nat} {bs:List Value} {w:World} (h:BuT T ex B b P bs w) (hQ:∀ k,Q k→P k):BuT T ex B b Q bs w:=by
 obtain ⟨h1,p,v,h2,h3,h4⟩:=h
 exact ⟨h1,p,v,h2,h3,h4.weak hQ⟩
end
def NoB (b:Nat) (w:World) (k:Nat):Prop:=k < w.heap.size∧k ≠ b∧Small w k
theorem BuT.all {T:TypeId} {ex:List Value} {P:Nat→Prop} {B b:Nat} {bs:List Value} {w:World} (h:BuT T ex B b P bs w):BuT T ex B b (NoB b w) bs w:=by
 obtain ⟨h1,p,v,h2,h3,h4⟩:=h
 refine ⟨h1,p,v,h2,h3,h4.1,h4.2.1,h4.2.2.1,fun k hk=>⟨hk.1,hk.2.1,hk.2.2,fun e=>?_⟩⟩
 rcases h4.1.2 with ⟨rfl,_⟩|⟨g,cap,cur,rfl,_,hh,_⟩
 · simp[Value.ownBlock]at e
 · obtain rfl:g=k:=by simpa [Value.ownBlock] using e
   exact hk.2.2 _ _ hh
def KA (B b:Nat) (w w':World):Prop:=KP B (NoB b w) w w'
section
variable {B b:Nat} {w w' u:World}
theorem KA.refl (B b:Nat) (w:World):KA B b w w:=KP.refl _ _ _
theorem KA.size (h:KA B b w w'):w.heap.size≤w'.heap.size:=h.2.size
theorem KA.trans (h:KA B b w w') (k:KA B b w' u):KA B b w u:=⟨fun i hi=>by
 have e:=h.1 i hi
 exact (k.1 i ⟨Nat.lt_of_lt_of_le hi.1 h.size,hi.2.1,fun cs fz hc=>hi.2.2 cs fz (e.symm.trans hc)⟩).trans e,h.2.trans k.2⟩
theorem KA.of (hb:Below w.heap.size w w') (hg:B≤w.heap.size):KA B b w w':=⟨fun k hk=>hb.block k hk.1,hb.mono hg⟩
theorem KA.below (h:KA B b w w'):Below B w w':=h.2
theorem KA.blk {k:Nat} {vs:List Value} {t:TypeId} (h:KA B b w w') (hk:Blk w k vs t) (hb:k ≠ b) (ht:t ≠ 5):Blk w' k vs t:=
 (h.1 k ⟨hk.lt,hb,fun cs fz hc=>by rw[show w.heap[k]?=_ from hk]at hc;cases hc;exact ht rfl⟩).trans hk
end
theorem Zho:TOk 53 2:=⟨by kernel_rfl,by decide⟩
abbrev PBT (T:TypeId) (b:Nat) (acc:List UInt8) (w:World):Prop:=BuT T [] b b (fun _=>False) (bcs acc) w
theorem bcs_snoc (acc:List UInt8) (c:UInt8):bcs acc ++ [.int .u8 (c.toNat:Int)]=bcs (acc ++ [c]):=by simp[bcs,Lib.byteCells]
theorem bcs_add (acc x:List UInt8):bcs acc ++ bcs x=bcs (acc ++ x):=by simp[bcs,Lib.byteCells]
theorem pb_new (w:World) (T:TypeId):PBT T w.heap.size [] (w.alloc (.cells #[.pointer none,.slice none 0 0] T)):=
 ⟨Nat.le_refl _,_,_,.inl rfl,Blk.new w [.pointer none,.slice none 0 0] T,⟨⟨rfl,.inl ⟨rfl,rfl⟩⟩,by simp[Value.ownBlock],fun _=>rfl,fun k h=>h.elim⟩⟩
section
variable {T:TypeId} {b:Nat} {acc:List UInt8} {w:World}
theorem wByte (hT:TOk T 2) (c:UInt8) (h:PBT T b acc w) (hl:acc.length+1≤140737488355328) :
 Calls Tryz.prog 71 #[.pointer (some ⟨b,0,none⟩),.int .u8 (c.toNat:Int)] w fun e w'=>e=.returned .nilIface∧PBT T b (acc ++ [c]) w'∧KA b b w w':=by
 refine (writeByteT b b (bcs acc) (c.toNat:Int) w h.all hT (by rw[Znl];exact hl)).mono ?_
 rintro e w' ⟨rfl,h1,h2⟩
 rw[bcs_snoc]at h1
 exact ⟨rfl,h1.weak (fun k h=>h.elim),h2⟩
theorem wStr (hT:TOk T 2) (s:ByteArray) (h:PBT T b acc w) (hl:acc.length+s.size≤140737488355328) :
 Calls Tryz.prog 73 #[.pointer (some ⟨b,0,none⟩),.string s] w fun e w'=>e=.returned (.tuple #[.int .i64 s.size,.nilIface])∧PBT T b (acc ++ s.data.toList) w'∧KA b b w w':=by
 refine (Ztv b b (bcs acc) s w h.all hT (by rw[Znl];exact hl)).mono ?_
 rintro e w' ⟨rfl,h1,h2⟩
 rw[bcs_add]at h1
 exact ⟨rfl,h1.weak (fun k h=>h.elim),h2⟩
theorem wEnd (hT:TOk T 2) (h:PBT T b acc w) (h0:acc ≠ []) :
 Calls Tryz.prog 22 #[.pointer (some ⟨b,0,none⟩)] w fun e w'=>e=.returned (.string (str acc))∧Below b w w':=by
 refine (stringT b b acc w h.all hT.ne h0).mono ?_
 rintro e w' ⟨rfl,h1⟩
 exact ⟨rfl,h1.2⟩
end
theorem Ztg (b:UInt8):(Znx b).length≤2:=by
 unfold Znx
 split
 · decide
 split
 · decide
 split
 · decide
 split
 · decide
 split
 · decide
 · simp
theorem Zog:∀ (s:List UInt8),(Zpy s).length≤2 * s.length
 | []=>by simp[Zpy]
 | [b]=>by have:=Ztg b;simpa [Zpy] using this
 | b :: c :: r=>by
   rw[Zpy]
   split
   · have:=Zog r
     simp only[List.length_cons]
     omega
   · have h1:=Zog (c :: r)
     have h2:=Ztg b
     simp only[List.length_append,List.length_cons]at *
     omega
theorem Znb:∀ (ps:List (List UInt8)) (i:Nat),(Zes (ps.take i)).length≤(Zes ps).length
 | [],i=>by simp
 | [p],i=>by cases i <;> simp[Zes]
 | p :: q :: ps,0=>by simp[Zes]
 | p :: q :: ps,1=>by simp[Zes]
 | p :: q :: ps,i+2=>by
   have h:=Znb (q :: ps) (i+1)
   rw[List.take_succ_cons]at h
   rw[List.take_succ_cons,List.take_succ_cons,Zes,Zes]
   simp only[List.length_append,List.length_cons]
   omega
theorem headQ_len (ps:List (List UInt8)) (i k:Nat) (p:List UInt8) (h:ps[i]?=some p):(headQ ps i ++ (p.take k).flatMap Znx).length≤(Zes ps).length:=by
 have h1:=Zrp ps i p h
 have h2:=Znb ps (i+1)
 rw[h1]at h2
 rw[List.length_append]at h2 ⊢
 have:((p.take k).flatMap Znx).length≤(p.flatMap Znx).length:=by
  have e:p.flatMap Znx=(p.take k).flatMap Znx ++ (p.drop k).flatMap Znx:=by rw[←List.flatMap_append,List.take_append_drop]
  rw[e,List.length_append]
  omega
 omega
theorem Zlz:∀ (s p:List UInt8),p ∈ Zcb s→p.length≤s.length
 | [],p,h=>by simp[Zcb]at h;subst h;simp
 | [b],p,h=>by simp[Zcb]at h;subst h;simp
 | b :: c :: r,p,h=>by
   rw[Zcb]at h
   split at h
   · rcases List.mem_cons.1 h with rfl|h
     · simp
     · have:=Zlz r p h
       simp only[List.length_cons]
       omega
   · have hne:=Zgo (c :: r)
     cases hq:Zcb (c :: r) with
     | nil=>exact absurd hq hne
     | cons q qs=>
       rw[hq]at h
       simp only[]at h
       rcases List.mem_cons.1 h with rfl|h
       · have:=Zlz (c :: r) q (by rw[hq];simp)
         simp only[List.length_cons]at *
         omega
       · have:=Zlz (c :: r) p (by rw[hq];simp[h])
         simp only[List.length_cons]at *
         omega
theorem Zoz:∀ s:List UInt8,(Zcb s).length≤s.length+1
 | []=>by simp[Zcb]
 | [b]=>by simp[Zcb]
 | b :: c :: r=>by
   rw[Zcb]
   split
   · have:=Zoz r
     simp only[List.length_cons]
     omega
   · have:=Zoz (c :: r)
     have hne:=Zgo (c :: r)
     cases hq:Zcb (c :: r) with
     | nil=>exact absurd hq hne
     | cons q qs=>
       rw[hq]at this
       simp only[List.length_cons]at *
       omega
def accQ (ps:List (List UInt8)) (i:Nat) (p:List UInt8) (k:Nat):List UInt8:=34 :: (headQ ps i ++ (p.take k).flatMap Znx)
theorem accQ_step (ps:List (List UInt8)) (i:Nat) (p:List UInt8) (k:Nat) (c:UInt8) (h:p[k]?=some c):accQ ps i p k ++ Znx c=accQ ps i p (k+1):=by
 unfold accQ
 rw[List.take_add_one,h]
 simp
theorem accQ_end (ps:List (List UInt8)) (i:Nat) (p:List UInt8) (h:ps[i]?=some p):accQ ps i p p.length=34 :: Zes (ps.take (i+1)):=by
 unfold accQ
 rw[List.take_length,←Zrp ps i p h]
set_option maxRecDepth 100000 in
theorem Zzq (s:ByteArray) (w:World) (hs:s.size≤4096) (htab:Tb w):Calls Tryz.prog 34 #[.string s] w fun e w'=>e=.returned (.string (str (Zbi s.data.toList)))∧Below w.heap.size w w':=by
 have hps:Hid (Zbi s.data.toList=34 :: (Zes (Zcb s.data.toList) ++ [34])):=Zai (by unfold Zbi;rw[Zmi])
 have hjl:(Zes (Zcb s.data.toList)).length≤8192:=by
  have:=Zog s.data.toList
  rw[Zmi,←Lib.size_eq]at this
  omega
 have hpl:∀ p ∈ Zcb s.data.toList,p.length≤4096:=fun p hp=>by
  have:=Zlz _ p hp
  rw[←Lib.size_eq]at this
  omega
 have hsl:(Zcb s.data.toList).length≤4097:=by
  have:=Zoz s.data.toList
  rw[←Lib.size_eq]at this
  omega
 have hsp0:=split_star s
 have hne0:=Zgo s.data.toList
 have hsp1:Lib.splitB ⟨#[92,42]⟩ 0 (Lib.countB s ⟨#[92,42]⟩) s=(Zcb s.data.toList).map str:=by
  rw[←hsp0,List.map_map,show (str ∘ fun x:ByteArray=>x.data.toList)=id from funext Zdh,List.map_id]
 have hct:∀ W:World,Below w.heap.size w W→Calls Tryz.prog 72 #[.string s,.string ⟨#[92,42]⟩] W fun e w'=>e=.returned (.slice (some ⟨W.heap.size,0,none⟩) (Zcb s.data.toList).length (Zcb s.data.toList).length)∧w'=W.alloc (.cells (Zfo ((Zcb s.data.toList).map str)).toArray 9):=fun W hW=>by
  obtain ⟨m,hm⟩:=(htab.below hW).max
  have h:=Tryz.strings_Split s ⟨#[92,42]⟩ m W (by omega) hm (by decide)
  have hl:Lib.countB s ⟨#[92,42]⟩+1=(Zcb s.data.toList).length:=by
   rw[←Lib.splitB_all ⟨#[92,42]⟩ (by decide) 0 _ s rfl,hsp1,List.length_map]
  rw[hl,hsp1]at h
  exact h
 obtain ⟨ps,hps2⟩:=Zaf (Zcb s.data.toList)
 simp only[←hps2.out]at hct hsl hne0 hjl hps hpl
 obtain ⟨R,hR⟩:=Zaf (Zbi s.data.toList)
 rw[←hR.out]at hps ⊢
 have hpb:=pb_new w 53
 have hb0:=Zac w (.cells #[.pointer none,.slice none 0 0] 53)
 obtain ⟨W,hW⟩:=Zaf (w.alloc (.cells #[.pointer none,.slice none 0 0] 53))
 rw[←hW.out]at hpb hb0
 have hwb:=wByte Zho 34 hpb (by simp)
 obtain ⟨n,hn⟩:=Zaf ps.length
 simp only[←hn.out]at hct
 rw[←hn.out]at hsl
 have hn0:0 < n:=by rw[hn.out];exact List.length_pos_iff.2 hne0
 obtain ⟨b,hb⟩:=Zaf w.heap.size
 rw[←hb.out]at hpb hwb
 have HB:=Zai (Nat.le_of_eq hb.out.symm)
 clear hR hps2 hsp0 hsp1 hne0 hs
 go_enter Tryz.func34,Tryz.ntmps34
 go_upto_region 2 with (first|(at_builtin;fail))
 rw[←hW.out,←hb.out]
 clear hW hb
 go_wp2_with (first|(at_builtin;fail))
 refine hwb.mono ?_
 clear hwb hpb
 rintro e w1 ⟨rfl,hpb,hk1⟩
 have hb1:Below w.heap.size w w1:=hb0.trans (hk1.below.mono HB.out)
 have hct1:=hct w1 hb1
 clear hct hk1 hb0
 have k2:=Blk.new w1 (Zfo (ps.map str)) 9
 have hb2:=bt hb1 (Zac w1 (.cells (Zfo (ps.map str)).toArray 9))
 have hpb2:=hpb.below (Zac w1 (.cells (Zfo (ps.map str)).toArray 9))
 have hbg:b < w1.heap.size:=by obtain ⟨_,_,_,_,hk,_⟩:=hpb;exact hk.lt
 obtain ⟨g,hg⟩:=Zaf w1.heap.size
 rw[←hg.out]at hct1 k2 hbg
 obtain ⟨W2,hW2⟩:=Zaf (w1.alloc (.cells (Zfo (ps.map str)).toArray 9))
 rw[←hW2.out]at k2 hb2 hpb2 hct1
 clear hW2 hg
 go_wp2_with (first|(at_builtin;fail))
 refine hct1.mono ?_
 clear hct1
 rintro e w2 ⟨rfl,rfl⟩
 have HP:=Zai hpb2
 have HK:=Zai k2
 clear hpb hpb2 k2 hb1
 go_wp2_with (first|(at_builtin;fail))
 go_loopw [4,5,6,11,21] (fun _ _ _ i _ wr=>∃ k:Nat,k≤n∧i=.int .i64 k∧Hid (PBT 53 b (34 :: Zes (ps.take k)) wr)∧Hid (Blk wr g (Zfo (ps.map str)) 9)∧Below w.heap.size w wr) (fun _ _ _ i _ _=>n - (intOf i).toNat)
 case atStart=>exact ⟨0,by omega,rfl,HP,HK,hb2⟩
 case round=>
  clear hb2 HP HK
  obtain ⟨i,hi,rfl,HP,HK,hbw⟩:=hrel
  by_cases hlt:i < n
  · have hi0:(0:Int)≤(i:Int):=by omega
    have hi1:(i:Int) < (n:Int):=by omega
    obtain ⟨p,hp⟩:∃ p,ps[i]?=some p:=⟨ps[i]'(by rw[←hn.out];exact hlt),List.getElem?_eq_getElem _⟩
    have hpm:=hpl p (List.mem_of_getElem? hp)
    have c0:wr.cell? ⟨g,i,none⟩=some (.string (str p)):=(HK.out.cell i).trans (by simp[Zfo,hp])
    have hpsz:((str p).size:Int)=(p.length:Int):=by rw[Zbo]
    have HPP:=Zai hp
    clear hp
    go_upto_if 17 with (first|(at_builtin;fail))
    go_cut [] (fun wx=>Hid (PBT 53 b (accQ ps i p 0) wx)∧Hid (Blk wx g (Zfo (ps.map str)) 9)∧Below w.heap.size w wx)
    case first=>
     by_cases hi2:i=0
     · subst hi2
       have hacc:(34 :: Zes (ps.take 0):List UInt8)=accQ ps 0 p 0:=by simp[accQ,headQ,Zes]
       rw[hacc]at HP
       go_wp2_with (first|(at_builtin;fail))
       go_meet
       case rel=>exact ⟨HP,HK,hbw⟩
     · have hi3:(0:Int) < (i:Int):=by omega
       have hP2:=HP.out
       have hws:=wStr Zho ⟨#[92,42]⟩ hP2 (by have:=Znb ps i;simp only[List.length_cons];have:(⟨#[92,42]⟩:ByteArray).size=2:=rfl;omega)
       have hacc:(34 :: Zes (ps.take i):List UInt8) ++ (⟨#[92,42]⟩:ByteArray).data.toList=accQ ps i p 0:=by
        unfold accQ headQ
        rw[if_neg hi2]
        simp
       rw[hacc]at hws
       clear hacc hP2
       go_wp2_with (first|(at_builtin;fail))
       refine hws.mono ?_
       clear hws
       rintro e w3 ⟨rfl,hpb3,hk3⟩
       have hk4:=hk3.blk HK.out (by omega) (by decide)
       have hb3:Below w.heap.size w w3:=hbw.trans (hk3.below.mono HB.out)
       go_wp2_with (first|(at_builtin;fail))
       go_meet
       case rel=>exact ⟨Zai hpb3,Zai hk4,hb3⟩
    case rest=>
     clear HP HK hbw c0
     obtain ⟨HP,HK,hbw⟩:=hcut
     have hplen:p.length≤4096:=hpm
     go_wp2_with (first|(at_builtin;fail))
     go_loopw [6,21] (fun _ k wr=>∃ q:Nat,q≤p.length∧k=.int .i64 q∧Hid (PBT 53 b (accQ ps i p q) wr)∧Hid (Blk wr g (Zfo (ps.map str)) 9)∧Below w.heap.size w wr) (fun _ k _=>p.length - (intOf k).toNat)
     case atStart=>exact ⟨0,by omega,rfl,HP,HK,hbw⟩
     case round=>
      clear hbw HP HK
      obtain ⟨q,hq,rfl,HP,HK,hbw⟩:=hrel
      by_cases hqt:q < p.length
      · have hq0:(0:Int)≤(q:Int):=by omega
        have hq1:(q:Int) < ((str p).size:Int):=by rw[hpsz];omega
        have hqs:q < (str p).size:=by rw[Zbo];exact hqt
        obtain ⟨c,hc⟩:=Zaf (str p)[q]
        have hpc:p[q]?=some c:=by
         rw[List.getElem?_eq_getElem hqt,hc.out]
         simp[str,ByteArray.getElem_eq_getElem_data]
        have hsh:=fun (W:World)=>shown_w c W
        have hcc:Hid (((str p)[q]).toNat=c.toNat):=Zai (by rw[hc.out])
        have hlen:=headQ_len ps i q p HPP.out
        have hstep:=accQ_step ps i p q c hpc
        have hal:(accQ ps i p q).length+2≤140737488355328:=by
         unfold accQ
         rw[List.length_cons]
         omega
        have hP2:=HP.out
        clear hpc
        go_wp2_with (first|(at_builtin;fail))
        rw[←hc.out]
        refine (hsh _).mono ?_
        clear hsh
        rintro e w3 ⟨rfl,hb3⟩
        have hws:=wStr Zho (str (Znx c)) (hP2.below hb3) (by have:=Ztg c;rw[Zbo];omega)
        rw[Zax,hstep]at hws
        have hkb:=HK.out.below hb3
        have hbw3:=bt hbw hb3
        go_wp2_with (first|(at_builtin;fail))
        refine hws.mono ?_
        clear hws
        rintro e w4 ⟨rfl,hpb4,hk4⟩
        have hk5:=hk4.blk hkb (by omega) (by decide)
        have hb4:Below w.heap.size w w4:=hbw3.trans (hk4.below.mono HB.out)
        go_wp2_with (first|(at_builtin;fail))
        go_roundw
        case rel=>exact ⟨q+1,by omega,by go_num,Zai hpb4,Zai hk5,hb4⟩
        case measure=>simp[intOf];omega
      · obtain rfl:q=p.length:=by omega
        have hq1:¬ ((p.length:Nat):Int) < ((str p).size:Int):=by rw[hpsz];omega
        have hacc:=accQ_end ps i p HPP.out
        rw[hacc]at HP
        clear hacc
        go_wp2_with (first|(at_builtin;fail))
        go_roundw
        case rel=>exact ⟨i+1,by omega,by go_num,HP,HK,hbw⟩
        case measure=>simp[intOf];omega
  · obtain rfl:i=n:=by omega
    have hi1:¬ (i:Int) < (i:Int):=by omega
    have hacc:(34 :: Zes (ps.take i):List UInt8)=34 :: Zes ps:=by rw[hn.out,List.take_length]
    have hP2:=HP.out
    rw[hacc]at hP2
    have hwb:=wByte Zho 34 hP2 (by simp only[List.length_cons];omega)
    clear hP2 HP hacc
    go_wp2_with (first|(at_builtin;fail))
    refine hwb.mono ?_
    clear hwb
    rintro e w3 ⟨rfl,hpb3,hk3⟩
    have hwe:=wEnd Zho hpb3 (by simp)
    have hb3:Below w.heap.size w w3:=hbw.trans (hk3.below.mono HB.out)
    go_wp2_with (first|(at_builtin;fail))
    refine hwe.mono ?_
    clear hwe
    rintro e w4 ⟨rfl,hb4⟩
    go_wp2_with (first|(at_builtin;fail))
    go_ret
    exact ⟨by rw[hps.out];rfl,hb3.trans (hb4.mono HB.out)⟩
def quoE (s:ByteArray):Int:=if Lib.validD s.data.toList=false then 6 else if 256 < s.size then 3 else 0
theorem quoE_ok (s:ByteArray):quoE s=0 ↔ Zfu s=true:=by
 unfold quoE Zfu
 cases Lib.validD s.data.toList with
 | false=>simp
 | true=>
   by_cases h:256 < s.size
   · have h2:¬ s.size≤256:=by omega
     simp[h,h2]
   · have h2:s.size≤256:=by omega
     simp[h,h2]
def quoS (s:ByteArray):ByteArray:=if quoE s=0 then str (Zbi s.data.toList) else ⟨#[]⟩
set_option maxRecDepth 100000 in
theorem tquote_w (s:ByteArray) (w:World) (hs:s.size≤140737488351232) (htab:Tb w):Calls Tryz.prog 76 #[.string s] w fun e w'=>e=.returned (.tuple #[.string (quoS s),.int .i64 (quoE s)])∧Below w.heap.size w w':=by
 have hv:=Zop s w hs htab
 have hq0:Hid (quoE s=if Lib.validD s.data.toList=false then 6 else if 256 < s.size then 3 else 0):=rfl
 have hs0:Hid (quoS s=if quoE s=0 then str (Zbi s.data.toList) else ⟨#[]⟩):=rfl
 obtain ⟨Q,hQ⟩:=Zaf (quoE s)
 rw[←hQ.out]at hq0 hs0 ⊢
 obtain ⟨S,hS⟩:=Zaf (quoS s)
 rw[←hS.out]at hs0 ⊢
 obtain ⟨V,hV⟩:=Zaf (Lib.validD s.data.toList)
 rw[←hV.out]at hv hq0
 clear hQ hS hV
 go_enter Tryz.func76,Tryz.ntmps76
 go_wp2_with (first|(at_builtin;fail))
 refine hv.mono ?_
 clear hv
 rintro e w1 ⟨rfl,hb1⟩
 cases V with
 | false=>
   have h1:Q=6:=hq0.out
   have h2:S=⟨#[]⟩:=by rw[hs0.out,h1];rfl
   have H1:=Zai h1
   have H2:=Zai h2
   clear h1 h2
   go_wp2_with (first|(at_builtin;fail))
   go_ret2
   exact ⟨by rw[H1.out,H2.out];rfl,hb1⟩
 | true=>
   by_cases hl:256 < s.size
   · have hi:(256:Int) < (s.size:Int):=by omega
     have h1:Q=3:=by rw[hq0.out,if_neg (by simp),if_pos hl]
     have h2:S=⟨#[]⟩:=by rw[hs0.out,h1];rfl
     have H1:=Zai h1
     have H2:=Zai h2
     clear h1 h2
     go_wp2_with (first|(at_builtin;fail))
     go_ret2
     exact ⟨by rw[H1.out,H2.out];rfl,hb1⟩
   · have hi:¬ (256:Int) < (s.size:Int):=by omega
     have h1:Q=0:=by rw[hq0.out,if_neg (by simp),if_neg hl]
     have h2:S=str (Zbi s.data.toList):=by rw[hs0.out,h1];rfl
     have H1:=Zai h1
     have H2:=Zai h2
     clear h1 h2
     have hq:=Zzq s w1 (by omega) (htab.below hb1)
     go_wp2_with (first|(at_builtin;fail))
     refine hq.mono ?_
     clear hq
     rintro e w2 ⟨rfl,hb2⟩
     go_wp2_with (first|(at_builtin;fail))
     go_ret2
     exact ⟨by rw[H1.out,H2.out];rfl,bt hb1 hb2⟩
end Go.Proofs.YtnhooehmcggmdaaGreatDoor
