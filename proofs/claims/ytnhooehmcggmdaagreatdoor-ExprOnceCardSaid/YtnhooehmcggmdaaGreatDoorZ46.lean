/- Parts of a proof about the given program: XOnceW. -/
import Derived.Test.YtnhooehmcggmdaaGreatDoorZ36
import Derived.Test.YtnhooehmcggmdaaGreatDoorZ42
import Derived.Test.YtnhooehmcggmdaaGreatDoorZ43
namespace Go.Proofs.YtnhooehmcggmdaaGreatDoor
set_option maxHeartbeats 16000000
set_option linter.unusedVariables false
set_option linter.unusedSimpArgs false
set_option linter.unusedSectionVars false
open Go.RowKit
set_option maxRecDepth 100000 in
theorem expronce_w (hC:Zhx) (s:ByteArray) (w:World) (hs:s.size≤140737488351232) (htab:Tb8 w):Calls Tryz.prog 5 #[.string s] w fun e w'=>e=.returned (.bool true)∧Below w.heap.size w w':=by
 have hli:=Zpr hC w htab
 go_enter Tryz.func5,Tryz.ntmps5
 go_upto_region 1 with (first|(at_builtin;fail))
 go_wp2_with (first|(at_builtin;fail))
 refine hli.mono ?_
 clear hli
 rintro e w0 ⟨rfl,hb0⟩
 have hp1:=Zgy hC s w0 hs (htab.below hb0)
 cases hX:Zcp s.data.toList with
 | mk x1 kx=>
 obtain ⟨k1x,a1x⟩:=kx
 rw[hX]at hp1
 go_upto_region 3 with (first|(at_builtin;fail))
 go_wp2_with (first|(at_builtin;fail))
 refine hp1.mono ?_
 clear hp1
 rintro e w1 ⟨⟨v1,rfl,hres1⟩,hba1⟩
 obtain ⟨r1,rfl,h61,h11,hex1,hze1⟩:=Zdm hres1
 clear hres1
 have k01:=Blk.new w1 Zag 26
 have hbc1:=Zac w1 (.cells Zag.toArray 26)
 obtain ⟨A1,hA1⟩:=Zaf (w1.alloc (.cells Zag.toArray 26))
 have hAl1:Hid (A1=w1.alloc (.cells #[.int .u8 0,.int .i64 0,.string ⟨#[]⟩,.string ⟨#[]⟩,.slice none 0 0,.slice none 0 0] 26)):=hA1
 rw[←hA1.out]at k01 hbc1
 have k1:=k01.vrow r1
 have hbd1:=Zah hbc1 (Nat.le_refl _) r1.toArray
 obtain ⟨B1,hB1⟩:=Zaf (A1.setRow w1.heap.size r1.toArray)
 rw[←hB1.out]at k1 hbd1
 have hbB1:Below w.heap.size w B1:=bt (bt hb0 hba1) hbd1
 have hgs1:w.heap.size≤w1.heap.size:=(bt hb0 hba1).size
 clear hA1 hbc1
 cases x1 with
 | none=>
   obtain ⟨hk1,ha1⟩:=Zrh hX
   have hr1:=hze1 rfl
   have ha2:(a1x:Int)≤(s.size:Int):=by rw[Lib.size_eq];simp only[]at ha1;omega
   have ha3:(0:Int)≤(a1x:Int):=by omega
   simp only[]at hk1
   have hk2:(k1x == 0)=false:=by rw[beq_eq_false_iff_ne];exact hk1
   have hE0:EAt B1 (fun _=>True) (Zbk 0 []) r1:=by rw[hr1];exact Zoh _ _
   have hsm:=Zun (w:=B1) hE0 (Zoh B1 (fun _=>True))
   rw[show Zag.toArray=#[.int .u8 0,.int .i64 0,.string ⟨#[]⟩,.string ⟨#[]⟩,.slice none 0 0,.slice none 0 0] from rfl]at hsm
   clear hr1 hE0 hze1 hex1
   clear hX hk1 ha1
   go_upto_region 5 with (first
    | (at_builtin;fail)
    | (rw[←hAl1.out];refine wpList_store_row rfl 26 _ _ rfl _ r1.toArray rfl rfl 26 Zag.toArray k01 (kE6 h61) (by simp[h61,Zag,Zav]) (Zas h11) ?_;rw[←hB1.out]))
   go_wp2_with (first
    | (at_builtin;fail)
    | refine wpList_load_row rfl 26 _ rfl _ rfl 26 r1.toArray (0,0) _ k1 Tryz.underlying26 rfl (kE6 h61) ?_)
   refine hsm.mono ?_
   clear hsm
   rintro e w4 ⟨rfl,hb4⟩
   go_wp2_with (first|(at_builtin;fail))
   go_ret
   exact ⟨rfl,bt hbB1 hb4⟩
 | some E=>
   obtain ⟨hk1,ts,hcut,hpr,hchk⟩:=Zit hX
   obtain ⟨rfl,rfl⟩:k1x=0∧a1x=0:=by simpa using hk1
   obtain ⟨hE1,-⟩:=hex1 E rfl
   have hEB:=hE1.below hbd1
   have hcok:=Zwe hchk
   have hnod:E.nodes≤4611686018427387904:=by omega
   have hlen:s.data.toList.length≤2048:=(Zti hcut).1
   have hsz:s.size≤2048:=by rw[Lib.size_eq];exact hlen
   have hokN:=Zqa E r1 hE1
   have hsl:=(Zob E.ht E (Nat.le_refl _) hcok.1 hokN).2
   have hpri:=Zpl hC E r1 (Nw w0.heap.size w1) B1 B1 hEB (Below.refl _ _) (htab.below hbB1) hnod
   rw[show Zly E=str (Zao E) from if_pos hchk,hchk]at hpri
   have hp2f:=Zrg hchk hokN
   have haround:=fun h=>Zuy hX h
   have hbehind:=fun h=>Zux hX h
   have hssz:(str (Zao E)).size≤140737488351232:=by rw[Zbo];omega
   obtain ⟨L,hL⟩:=Zaf (Zao E).length
   have hLs:(str (Zao E)).size=L:=by rw[Zbo];exact hL.out.symm
   obtain ⟨TS,hTS⟩:=Zaf (str (Zao E))
   rw[←hTS.out]at hpri hssz hLs
   have hTd:TS.data.toList=Zao E:=by rw[hTS.out];rfl
   rw[←hTd]at hp2f
   rw[hTd,←hL.out]at hp2f
   have hk1':=Zai hX
   clear hX hk1 hpr hcut
   go_upto_region 4 with (first
    | (at_builtin;fail)
    | (rw[←hAl1.out];refine wpList_store_row rfl 26 _ _ rfl _ r1.toArray rfl rfl 26 Zag.toArray k01 (kE6 h61) (by simp[h61,Zag,Zav]) (Zas h11) ?_;rw[←hB1.out]))
   go_wp2_with (first
    | (at_builtin;fail)
    | refine wpList_load_row rfl 26 _ rfl _ rfl 26 r1.toArray (0,0) _ k1 Tryz.underlying26 rfl (kE6 h61) ?_)
   refine hpri.mono ?_
   clear hpri
   rintro e wP ⟨rfl,hbP⟩
   have hbP1:Below w.heap.size w wP:=bt hbB1 hbP
   have hp2:=Zgy hC TS wP hssz (htab.below hbP1)
   rw[hTd,hp2f]at hp2
   clear hp2f
   obtain ⟨X2,hX2⟩:∃ X:Option Et × Int × Nat,X=if L≤2048 then (some E,0,0) else (none,3,0):=⟨_,rfl⟩
   rw[←hX2]at hp2
   have hX2a:(X2.2.1=0∧X2.1=some E)∨(X2.2.1=3∧2048 < L):=by
    by_cases h:L≤2048
    · rw[if_pos h]at hX2;exact .inl ⟨by rw[hX2],by rw[hX2]⟩
    · rw[if_neg h]at hX2;exact .inr ⟨by rw[hX2],by omega⟩
   have HX2:=Zai hX2a
   obtain ⟨x2,k2x,a2x⟩:=X2
   simp only[]at HX2
   clear hX2 hX2a
   go_upto_region 7 with (first|(at_builtin;fail))
   go_wp2_with (first|(at_builtin;fail))
   refine hp2.mono ?_
   clear hp2
   rintro e w2 ⟨⟨v2,rfl,hres2⟩,hba2⟩
   obtain ⟨r2,rfl,h62,h12,hex2,hze2⟩:=Zdm hres2
   clear hres2
   have k02:=Blk.new w2 Zag 26
   have hbc2:=Zac w2 (.cells Zag.toArray 26)
   obtain ⟨A2,hA2⟩:=Zaf (w2.alloc (.cells Zag.toArray 26))
   have hAl2:Hid (A2=w2.alloc (.cells #[.int .u8 0,.int .i64 0,.string ⟨#[]⟩,.string ⟨#[]⟩,.slice none 0 0,.slice none 0 0] 26)):=hA2
   rw[←hA2.out]at k02 hbc2
   have k2:=k02.vrow r2
   have hbd2:=Zah hbc2 (Nat.le_refl _) r2.toArray
   obtain ⟨B2,hB2⟩:=Zaf (A2.setRow w2.heap.size r2.toArray)
   rw[←hB2.out]at k2 hbd2
   have hbB2:Below w.heap.size w B2:=bt (bt hbP1 hba2) hbd2
   have hgs2:w.heap.size≤w2.heap.size:=(bt hbP1 hba2).size
   clear hA2 hbc2
   have k1b:=((k1.below hbP).below hba2).below hbd2
   have hEB2:=((hEB.below hbP).below hba2).below hbd2
   have hch:=hC E r1 (Nw w0.heap.size w1) B2 B2 hEB2 (Below.refl _ _) (htab.below hbB2).tb hnod
   rw[hchk]at hch
   have hLi:(TS.size:Int)=(L:Int):=by rw[hLs]
   go_upto_region 8 with (first
    | (at_builtin;fail)
    | (rw[←hAl2.out];refine wpList_store_row rfl 26 _ _ rfl _ r2.toArray rfl rfl 26 Zag.toArray k02 (kE6 h62) (by simp[h62,Zag,Zav]) (Zas h12) ?_;rw[←hB2.out]))
   go_cut [76] from 51 to 76 (fun z wx=>z=.bool false∧Below B2.heap.size B2 wx)
   case first=>
    go_wp2_with (first
     | (at_builtin;fail)
     | refine wpList_load_row rfl 26 _ rfl _ rfl 26 r1.toArray (0,0) _ k1b Tryz.underlying26 rfl (kE6 h61) ?_)
    refine hch.mono ?_
    clear hch
    rintro e w5 ⟨rfl,hb5⟩
    have k1c:=k1b.below hb5
    have k2c:=k2.below hb5
    have hE5:EAt w5 (Nw w0.heap.size w1) E r1:=hEB2.below hb5
    obtain ⟨o1,n1,s1,t1,X1,a1,c1,Y1,m1,d1,hrw1⟩:=Zcf hE5
    rw[hrw1]at k1c
    have x0:w5.cell? ⟨w1.heap.size,0,none⟩=some (.int .u8 (o1:Int)):=k1c.cell 0
    have x1:w5.cell? ⟨w1.heap.size,1,none⟩=some (.int .i64 n1):=k1c.cell 1
    have x2:w5.cell? ⟨w1.heap.size,2,none⟩=some (.string s1):=k1c.cell 2
    have x3:w5.cell? ⟨w1.heap.size,3,none⟩=some (.string t1):=k1c.cell 3
    have x4:w5.cell? ⟨w1.heap.size,4,none⟩=some (.slice X1 a1 c1):=k1c.cell 4
    have x5:w5.cell? ⟨w1.heap.size,5,none⟩=some (.slice Y1 m1 d1):=k1c.cell 5
    have HRW1:=Zai hrw1
    clear hrw1
    rcases HX2.out with ⟨h1,h2⟩|⟨h1,h2⟩
    · subst h1
      have hE2:=((hex2 E h2).1.below hbd2).below hb5
      have hsm:=Zun (w:=w5) hE5 hE2
      obtain ⟨o2,n2,s2,t2,X2,a2,c2,Y2,m2,d2,hrw2⟩:=Zcf hE2
      rw[hrw2]at k2c
      rw[Zhv HRW1.out,Zhv hrw2]at hsm
      have y0:w5.cell? ⟨w2.heap.size,0,none⟩=some (.int .u8 (o2:Int)):=k2c.cell 0
      have y1:w5.cell? ⟨w2.heap.size,1,none⟩=some (.int .i64 n2):=k2c.cell 1
      have y2:w5.cell? ⟨w2.heap.size,2,none⟩=some (.string s2):=k2c.cell 2
      have y3:w5.cell? ⟨w2.heap.size,3,none⟩=some (.string t2):=k2c.cell 3
      have y4:w5.cell? ⟨w2.heap.size,4,none⟩=some (.slice X2 a2 c2):=k2c.cell 4
      have y5:w5.cell? ⟨w2.heap.size,5,none⟩=some (.slice Y2 m2 d2):=k2c.cell 5
      clear hrw2
      clear h2
      go_wp2_with (first|(at_builtin;fail))
      refine hsm.mono ?_
      clear hsm
      rintro e w6 ⟨rfl,hb6⟩
      go_wp2_with (first|(at_builtin;fail))
      go_meet
      case rel=>exact ⟨rfl,bt hb5 hb6⟩
    · subst h1
      have h3:¬ (L:Int)≤2048:=by omega
      have h4:=h3
      rw[←hLi]at h4
      have h5:decide ((L:Int)≤2048)=false:=decide_eq_false h3
      go_wp2_with (first|(at_builtin;fail))
      go_meet
      case rel=>exact ⟨by first|rfl|rw[h5],hb5⟩
   case rest=>
    obtain ⟨rfl,hbx⟩:=hcut
    clear hch hLi HX2
    have hbc:=bt hbB2 hbx
    have hEc:=hEB2.below hbx
    have k1c:=k1b.below hbx
    obtain ⟨U1,hU1⟩:=Zaf (str ([40] ++ s.data.toList))
    obtain ⟨U2,hU2⟩:=Zaf (str ([40] ++ s.data.toList ++ [10,41]))
    obtain ⟨U3,hU3⟩:=Zaf (str (s.data.toList ++ [10,41]))
    have q1:=Zhw (a:=[40]) (c:=s.data.toList) (S:=⟨#[40]⟩) (T:=s) rfl rfl hU1.out (by simp only[List.length_cons,List.length_nil];omega)
    have q2:=Zhw (c:=[10,41]) (T:=⟨#[10,41]⟩) hU1.out rfl hU2.out (by simp only[List.length_append,List.length_cons,List.length_nil];omega)
    have q3:=Zhw (a:=s.data.toList) (c:=[10,41]) (S:=s) (T:=⟨#[10,41]⟩) rfl rfl hU3.out (by simp only[List.length_append,List.length_cons,List.length_nil];omega)
    have hp3:=Zgy hC U2 wc (by rw[hU2.out,Zbo];simp only[List.length_append,List.length_cons,List.length_nil];omega) (htab.below hbc)
    have e3:U2.data.toList=40 :: (s.data.toList ++ [10,41]):=by rw[hU2.out];rfl
    have e4:U3.data.toList=s.data.toList ++ [10,41]:=by rw[hU3.out];rfl
    rw[e3]at hp3
    obtain ⟨X3,hX3⟩:∃ X,X=Zcp (40 :: (s.data.toList ++ [10,41])):=⟨_,rfl⟩
    obtain ⟨X4,hX4⟩:∃ X,X=Zcp (s.data.toList ++ [10,41]):=⟨_,rfl⟩
    have H3:Hid (s.data.toList.length+3≤2048→X3.1=some E∧X3.2.1=0):=Zai (fun h=>by rw[hX3,haround h];exact ⟨rfl,rfl⟩)
    have H4:Hid (s.data.toList.length+3≤2048→X4.2.1=5):=Zai (fun h=>by obtain ⟨a,h9⟩:=hbehind h;rw[hX4,h9])
    rw[←hX3]at hp3
    have HX4:=Zai hX4
    clear hX3 hX4 haround hbehind
    obtain ⟨x3,k3x,a3x⟩:=X3
    obtain ⟨x4,k4x,a4x⟩:=X4
    simp only[]at H3 H4
    go_upto_region 10 with (first|(at_builtin;fail))
    go_wp2_with (first|(at_builtin;fail))
    refine hp3.mono ?_
    clear hp3
    rintro e w3 ⟨⟨v3,rfl,hres3⟩,hba3⟩
    obtain ⟨r3,rfl,h63,h13,hex3,hze3⟩:=Zdm hres3
    clear hres3
    have k03:=Blk.new w3 Zag 26
    have hbc3:=Zac w3 (.cells Zag.toArray 26)
    obtain ⟨A3,hA3⟩:=Zaf (w3.alloc (.cells Zag.toArray 26))
    have hAl3:Hid (A3=w3.alloc (.cells #[.int .u8 0,.int .i64 0,.string ⟨#[]⟩,.string ⟨#[]⟩,.slice none 0 0,.slice none 0 0] 26)):=hA3
    rw[←hA3.out]at k03 hbc3
    have k3:=k03.vrow r3
    have hbd3:=Zah hbc3 (Nat.le_refl _) r3.toArray
    obtain ⟨B3,hB3⟩:=Zaf (A3.setRow w3.heap.size r3.toArray)
    rw[←hB3.out]at k3 hbd3
    have hbB3:Below w.heap.size w B3:=bt (bt hbc hba3) hbd3
    have hgs3:w.heap.size≤w3.heap.size:=(bt hbc hba3).size
    clear hA3 hbc3
    have hp4:=Zgy hC U3 B3 (by rw[hU3.out,Zbo];simp only[List.length_append,List.length_cons,List.length_nil];omega) (htab.below hbB3)
    rw[e4,←HX4.out]at hp4
    clear HX4
    go_upto_region 11 with (first
     | (at_builtin;fail)
     | (rw[←hAl3.out];refine wpList_store_row rfl 26 _ _ rfl _ r3.toArray rfl rfl 26 Zag.toArray k03 (kE6 h63) (by simp[h63,Zag,Zav]) (Zas h13) ?_;rw[←hB3.out]))
    go_wp2_with (first|(at_builtin;fail))
    refine hp4.mono ?_
    clear hp4
    rintro e w4 ⟨⟨v4,rfl,hres4⟩,hba4⟩
    obtain ⟨r4,rfl,h64,h14,hex4,hze4⟩:=Zdm hres4
    clear hres4
    have k04:=Blk.new w4 Zag 26
    have hbc4:=Zac w4 (.cells Zag.toArray 26)
    obtain ⟨A4,hA4⟩:=Zaf (w4.alloc (.cells Zag.toArray 26))
    have hAl4:Hid (A4=w4.alloc (.cells #[.int .u8 0,.int .i64 0,.string ⟨#[]⟩,.string ⟨#[]⟩,.slice none 0 0,.slice none 0 0] 26)):=hA4
    rw[←hA4.out]at k04 hbc4
    have k4:=k04.vrow r4
    have hbd4:=Zah hbc4 (Nat.le_refl _) r4.toArray
    obtain ⟨B4,hB4⟩:=Zaf (A4.setRow w4.heap.size r4.toArray)
    rw[←hB4.out]at k4 hbd4
    have hbB4:Below w.heap.size w B4:=bt (bt hbB3 hba4) hbd4
    have hgs4:w.heap.size≤w4.heap.size:=(bt hbB3 hba4).size
    clear hA4 hbc4
    go_upto_region 12 with (first
     | (at_builtin;fail)
     | (rw[←hAl4.out];refine wpList_store_row rfl 26 _ _ rfl _ r4.toArray rfl rfl 26 Zag.toArray k04 (kE6 h64) (by simp[h64,Zag,Zav]) (Zas h14) ?_;rw[←hB4.out]))
    have hsl2:s.size=s.data.toList.length:=Lib.size_eq s
    by_cases hl:s.size+3≤2048
    · have hi1:¬ (2048:Int) < (s.size:Int)+3:=by omega
      obtain ⟨h31,h32⟩:=H3.out (by omega)
      have h41:=H4.out (by omega)
      subst h32
      subst h41
      have hE4:EAt B4 (Nw w0.heap.size w1) E r1:=(((hEc.below hba3).below hbd3).below hba4).below hbd4
      have hE3:=(((hex3 E h31).1.below hbd3).below hba4).below hbd4
      have k1d:=(((k1c.below hba3).below hbd3).below hba4).below hbd4
      have k3d:=(k3.below hba4).below hbd4
      have hsm:=Zun (w:=B4) hE4 hE3
      obtain ⟨o1,n1,s1,t1,X1,a1,c1,Y1,m1,d1,hrw1⟩:=Zcf hE4
      obtain ⟨o3,n3,s3,t3,X3,a3,c3,Y3,m3,d3,hrw3⟩:=Zcf hE3
      rw[hrw1]at k1d
      rw[hrw3]at k3d
      rw[Zhv hrw1,Zhv hrw3]at hsm
      have x0:B4.cell? ⟨w1.heap.size,0,none⟩=some (.int .u8 (o1:Int)):=k1d.cell 0
      have x1:B4.cell? ⟨w1.heap.size,1,none⟩=some (.int .i64 n1):=k1d.cell 1
      have x2:B4.cell? ⟨w1.heap.size,2,none⟩=some (.string s1):=k1d.cell 2
      have x3:B4.cell? ⟨w1.heap.size,3,none⟩=some (.string t1):=k1d.cell 3
      have x4:B4.cell? ⟨w1.heap.size,4,none⟩=some (.slice X1 a1 c1):=k1d.cell 4
      have x5:B4.cell? ⟨w1.heap.size,5,none⟩=some (.slice Y1 m1 d1):=k1d.cell 5
      have y0:B4.cell? ⟨w3.heap.size,0,none⟩=some (.int .u8 (o3:Int)):=k3d.cell 0
      have y1:B4.cell? ⟨w3.heap.size,1,none⟩=some (.int .i64 n3):=k3d.cell 1
      have y2:B4.cell? ⟨w3.heap.size,2,none⟩=some (.string s3):=k3d.cell 2
      have y3:B4.cell? ⟨w3.heap.size,3,none⟩=some (.string t3):=k3d.cell 3
      have y4:B4.cell? ⟨w3.heap.size,4,none⟩=some (.slice X3 a3 c3):=k3d.cell 4
      have y5:B4.cell? ⟨w3.heap.size,5,none⟩=some (.slice Y3 m3 d3):=k3d.cell 5
      clear hrw1 hrw3
      clear h31 hsl2
      go_wp2_with (first|(at_builtin;fail))
      refine hsm.mono ?_
      clear hsm
      rintro e w7 ⟨rfl,hb7⟩
      go_wp2_with (first|(at_builtin;fail))
      go_ret
      exact ⟨rfl,bt hbB4 hb7⟩
    · have hi1:(2048:Int) < (s.size:Int)+3:=by omega
      clear hsl2 H3 H4
      go_wp2_with (first|(at_builtin;fail))
      go_ret
      exact ⟨rfl,hbB4⟩
end Go.Proofs.YtnhooehmcggmdaaGreatDoor
