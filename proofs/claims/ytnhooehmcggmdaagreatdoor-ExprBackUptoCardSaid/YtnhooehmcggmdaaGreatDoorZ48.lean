/- Parts of a proof about the given program: XBackW. -/
import Derived.Test.YtnhooehmcggmdaaGreatDoorZ36
import Derived.Test.YtnhooehmcggmdaaGreatDoorZ42
import Derived.Test.YtnhooehmcggmdaaGreatDoorZ43
namespace Go.Proofs.YtnhooehmcggmdaaGreatDoor
set_option maxHeartbeats 16000000
set_option linter.unusedVariables false
set_option linter.unusedSimpArgs false
set_option linter.unusedSectionVars false
open Go.RowKit
set_option maxRecDepth 100000 in
theorem exprback_w (hC:Zhx) (E:Et) (r:List Value) (w:World) (hE:EAt w (fun _=>True) E r) (hn:E.nodes≤1048576) (htab:Tb8 w):Calls Tryz.prog 4 #[.agg r.toArray] w fun e w'=>e=.returned (.bool true)∧Below w.heap.size w w':=by
 obtain ⟨o1,n1,s1,t1,X1,a1,c1,Y1,m1,d1,hrw1⟩:=Zcf hE
 have h6:=(Zcl (Zcf hE)).1
 have kr:=Blk.new w r 26
 have hb0:=Zac w (.cells r.toArray 26)
 obtain ⟨W,hW⟩:=Zaf (w.alloc (.cells r.toArray 26))
 have hWl:Hid (W=w.alloc (.cells #[.int .u8 (o1:Int),.int .i64 n1,.string s1,.string t1,.slice X1 a1 c1,.slice Y1 m1 d1] 26)):=by
  rw[hrw1]at hW
  exact hW
 rw[←hW.out]at kr hb0
 have hli:=Zpr hC W (htab.below hb0)
 rw[Zhv hrw1]
 have HRW1:=Zai hrw1
 clear hrw1
 go_enter Tryz.func4,Tryz.ntmps4
 go_upto_region 1 with (first|(at_builtin;fail))
 rw[←hWl.out]
 clear hW hWl
 go_wp2_with (first|(at_builtin;fail))
 refine hli.mono ?_
 clear hli
 rintro e w0 ⟨rfl,hb1⟩
 have k0:=kr.below hb1
 have hbw0:=bt hb0 hb1
 have hE0:=hE.below hbw0
 have hpr:=Zpl hC E r (fun _=>True) w0 w0 hE0 (Below.refl _ _) (htab.below hbw0) (by omega)
 by_cases hchk:Zhj E=0
 · have hcok:=Zwe hchk
   have hokN:=Zqa E r hE
   have hsl:=(Zob E.ht E (Nat.le_refl _) hcok.1 hokN).2
   rw[show Zly E=str (Zao E) from if_pos hchk,hchk]at hpr
   have hp2f:=Zrg hchk hokN
   have hssz:(str (Zao E)).size≤140737488351232:=by rw[Zbo];omega
   obtain ⟨L,hL⟩:=Zaf (Zao E).length
   have hLs:(str (Zao E)).size=L:=by rw[Zbo];exact hL.out.symm
   obtain ⟨TS,hTS⟩:=Zaf (str (Zao E))
   rw[←hTS.out]at hpr hssz hLs
   have hTd:TS.data.toList=Zao E:=by rw[hTS.out];rfl
   rw[←hL.out]at hp2f
   have hLi:(TS.size:Int)=(L:Int):=by rw[hLs]
   clear hTS hL
   go_upto_region 3 with (first|(at_builtin;fail))
   go_wp2_with (first
    | (at_builtin;fail)
    | refine wpList_load_row rfl 26 _ rfl _ rfl 26 r.toArray (0,0) _ k0 Tryz.underlying26 rfl (kE6 h6) ?_)
   refine hpr.mono ?_
   clear hpr
   rintro e w2 ⟨rfl,hb2⟩
   have k2:=k0.below hb2
   have hbw2:=bt hbw0 hb2
   have hE2:=hE0.below hb2
   have hp3:=Zgy hC TS w2 hssz (htab.below hbw2)
   rw[hTd,hp2f]at hp3
   clear hp2f
   by_cases hlo:L≤2048
   · rw[if_pos hlo]at hp3
     have hi2:¬ (2048:Int) < (TS.size:Int):=by omega
     clear hLi hLs hsl
     go_upto_region 6 with (first|(at_builtin;fail))
     go_wp2_with (first|(at_builtin;fail))
     refine hp3.mono ?_
     clear hp3
     rintro e w3 ⟨⟨v3,rfl,hres3⟩,hba3⟩
     obtain ⟨r3,rfl,h63,h13,hex3,hze3⟩:=Zdm hres3
     clear hres3
     have k03:=Blk.new w3 Zag 26
     have hbc3:=Zac w3 (.cells Zag.toArray 26)
     obtain ⟨A3,hA3⟩:=Zaf (w3.alloc (.cells Zag.toArray 26))
     have hAl3:Hid (A3=w3.alloc (.cells #[.int .u8 0,.int .i64 0,.string ⟨#[]⟩,.string ⟨#[]⟩,.slice none 0 0,.slice none 0 0] 26)):=hA3
     rw[←hA3.out]at k03 hbc3
     have k3:=k03.vrow r3
     have hbd3:=Zah hbc3 (Nat.le_refl _) r3.toArray
     obtain ⟨B3,hB3⟩:=Zaf (A3.setRow w3.heap.size r3.toArray)
     rw[←hB3.out]at k3 hbd3
     have hbB3:Below w.heap.size w B3:=bt (bt hbw2 hba3) hbd3
     have hgs3:w.heap.size≤w3.heap.size:=(bt hbw2 hba3).size
     clear hA3 hbc3
     obtain ⟨hE3,-⟩:=hex3 E rfl
     have hEd:=(hE2.below hba3).below hbd3
     have hE3d:=hE3.below hbd3
     have k2d:=(k2.below hba3).below hbd3
     have k3d:=k3
     have hsm:=Zun (w:=B3) hEd hE3d
     obtain ⟨o3,n3,s3,t3,X3,a3,c3,Y3,m3,d3,hrw3⟩:=Zcf hE3d
     rw[HRW1.out]at k2d
     rw[hrw3]at k3d
     rw[Zhv HRW1.out,Zhv hrw3]at hsm
     have x0:B3.cell? ⟨w.heap.size,0,none⟩=some (.int .u8 (o1:Int)):=k2d.cell 0
     have x1:B3.cell? ⟨w.heap.size,1,none⟩=some (.int .i64 n1):=k2d.cell 1
     have x2:B3.cell? ⟨w.heap.size,2,none⟩=some (.string s1):=k2d.cell 2
     have x3:B3.cell? ⟨w.heap.size,3,none⟩=some (.string t1):=k2d.cell 3
     have x4:B3.cell? ⟨w.heap.size,4,none⟩=some (.slice X1 a1 c1):=k2d.cell 4
     have x5:B3.cell? ⟨w.heap.size,5,none⟩=some (.slice Y1 m1 d1):=k2d.cell 5
     have y0:B3.cell? ⟨w3.heap.size,0,none⟩=some (.int .u8 (o3:Int)):=k3d.cell 0
     have y1:B3.cell? ⟨w3.heap.size,1,none⟩=some (.int .i64 n3):=k3d.cell 1
     have y2:B3.cell? ⟨w3.heap.size,2,none⟩=some (.string s3):=k3d.cell 2
     have y3:B3.cell? ⟨w3.heap.size,3,none⟩=some (.string t3):=k3d.cell 3
     have y4:B3.cell? ⟨w3.heap.size,4,none⟩=some (.slice X3 a3 c3):=k3d.cell 4
     have y5:B3.cell? ⟨w3.heap.size,5,none⟩=some (.slice Y3 m3 d3):=k3d.cell 5
     clear hrw3
     clear hE3 hE3d hex3 hze3
     go_upto_region 7 with (first
      | (at_builtin;fail)
      | (rw[←hAl3.out];refine wpList_store_row rfl 26 _ _ rfl _ r3.toArray rfl rfl 26 Zag.toArray k03 (kE6 h63) (by simp[h63,Zag,Zav]) (Zas h13) ?_;rw[←hB3.out]))
     go_wp2_with (first|(at_builtin;fail))
     refine hsm.mono ?_
     clear hsm
     rintro e w7 ⟨rfl,hb7⟩
     go_wp2_with (first|(at_builtin;fail))
     go_ret
     exact ⟨rfl,bt hbB3 hb7⟩
   · rw[if_neg hlo]at hp3
     have hi2:(2048:Int) < (TS.size:Int):=by omega
     clear hLi hLs hsl
     go_upto_region 6 with (first|(at_builtin;fail))
     go_wp2_with (first|(at_builtin;fail))
     refine hp3.mono ?_
     clear hp3
     rintro e w3 ⟨⟨v3,rfl,hres3⟩,hba3⟩
     obtain ⟨r3,rfl,h63,h13,hex3,hze3⟩:=Zdm hres3
     clear hres3
     have k03:=Blk.new w3 Zag 26
     have hbc3:=Zac w3 (.cells Zag.toArray 26)
     obtain ⟨A3,hA3⟩:=Zaf (w3.alloc (.cells Zag.toArray 26))
     have hAl3:Hid (A3=w3.alloc (.cells #[.int .u8 0,.int .i64 0,.string ⟨#[]⟩,.string ⟨#[]⟩,.slice none 0 0,.slice none 0 0] 26)):=hA3
     rw[←hA3.out]at k03 hbc3
     have k3:=k03.vrow r3
     have hbd3:=Zah hbc3 (Nat.le_refl _) r3.toArray
     obtain ⟨B3,hB3⟩:=Zaf (A3.setRow w3.heap.size r3.toArray)
     rw[←hB3.out]at k3 hbd3
     have hbB3:Below w.heap.size w B3:=bt (bt hbw2 hba3) hbd3
     have hgs3:w.heap.size≤w3.heap.size:=(bt hbw2 hba3).size
     clear hA3 hbc3
     clear hex3 hze3
     go_upto_region 7 with (first
      | (at_builtin;fail)
      | (rw[←hAl3.out];refine wpList_store_row rfl 26 _ _ rfl _ r3.toArray rfl rfl 26 Zag.toArray k03 (kE6 h63) (by simp[h63,Zag,Zav]) (Zas h13) ?_;rw[←hB3.out]))
     go_wp2_with (first|(at_builtin;fail))
     go_ret
     exact ⟨rfl,hbB3⟩
 · rw[show Zly E=(⟨#[]⟩:ByteArray) from if_neg hchk]at hpr
   have hck2:=fun u (hu:Below w0.heap.size w0 u)=>hC E r (fun _=>True) u u (hE0.below hu) (Below.refl _ _) (htab.below (bt hbw0 hu)).tb (by omega)
   obtain ⟨c0,hc0⟩:=Zaf (Zhj E)
   rw[←hc0.out]at hpr hchk
   simp only[←hc0.out]at hck2
   have hq0:(c0 == 0)=false:=by rw[beq_eq_false_iff_ne];exact hchk
   clear hc0 hchk
   go_upto_region 3 with (first|(at_builtin;fail))
   go_wp2_with (first
    | (at_builtin;fail)
    | refine wpList_load_row rfl 26 _ rfl _ rfl 26 r.toArray (0,0) _ k0 Tryz.underlying26 rfl (kE6 h6) ?_)
   refine hpr.mono ?_
   clear hpr
   rintro e w2 ⟨rfl,hb2⟩
   have k2:=k0.below hb2
   have hbw2:=bt hbw0 hb2
   have hck:=hck2 w2 hb2
   have k2d:=k2
   rw[HRW1.out]at k2d
   rw[Zhv HRW1.out]at hck
   have x0:w2.cell? ⟨w.heap.size,0,none⟩=some (.int .u8 (o1:Int)):=k2d.cell 0
   have x1:w2.cell? ⟨w.heap.size,1,none⟩=some (.int .i64 n1):=k2d.cell 1
   have x2:w2.cell? ⟨w.heap.size,2,none⟩=some (.string s1):=k2d.cell 2
   have x3:w2.cell? ⟨w.heap.size,3,none⟩=some (.string t1):=k2d.cell 3
   have x4:w2.cell? ⟨w.heap.size,4,none⟩=some (.slice X1 a1 c1):=k2d.cell 4
   have x5:w2.cell? ⟨w.heap.size,5,none⟩=some (.slice Y1 m1 d1):=k2d.cell 5
   clear hck2
   go_wp2_with (first|(at_builtin;fail))
   refine hck.mono ?_
   clear hck
   rintro e w7 ⟨rfl,hb7⟩
   go_wp2_with (first|(at_builtin;fail))
   go_ret
   exact ⟨rfl,bt hbw2 hb7⟩
end Go.Proofs.YtnhooehmcggmdaaGreatDoor
