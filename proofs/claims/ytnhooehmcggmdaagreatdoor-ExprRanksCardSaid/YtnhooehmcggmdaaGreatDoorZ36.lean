/- Parts of a proof about the given program: XTab8, XLive8. -/
import Derived.Test.YtnhooehmcggmdaaGreatDoorTie
import Derived.Test.YtnhooehmcggmdaaGreatDoorCards
import Derived.Deep.DeepHandedRow
import Derived.Deep.DeepWitnessRowRef
import Derived.Lib.LaidU8T
import Derived.Stop.LaidErr
import Derived.Deep.DeepLaidRun
import Derived.Test.YtnhooehmcggmdaaGreatDoorZ15
import Derived.Test.YtnhooehmcggmdaaGreatDoorZ14
import Derived.Test.YtnhooehmcggmdaaGreatDoorZ35
namespace Go.Proofs.YtnhooehmcggmdaaGreatDoor
set_option maxHeartbeats 16000000
set_option linter.unusedVariables false
set_option linter.unusedSimpArgs false
set_option linter.unusedSectionVars false
open Go.RowKit
abbrev rowLaid:List (String × DataW Unit):=[("math/bits.deBruijn32tab",Rows.laid_math_bits_deBruijn32tab),("math/bits.deBruijn64tab",Rows.laid_math_bits_deBruijn64tab),("internal/strconv.uint64pow10",Rows.laid_internal_strconv_uint64pow10),("unicode/utf8.acceptRanges",Rows.laid_unicode_utf8_acceptRanges),("strconv.ErrRange",Rows.laid_strconv_ErrRange),("strconv.ErrSyntax",Rows.laid_strconv_ErrSyntax),("unicode.White_Space",Rows.laid_unicode_White_Space),("strings.asciiSpace",Rows.laid_strings_asciiSpace),("unicode/utf8.first",Rows.laid_unicode_utf8_first)]
theorem gSpaceType:(Tryz.prog.globals[0]?).map (·.type)=some 142:=by kernel_rfl
theorem gPowType:(Tryz.prog.globals[3]?).map (·.type)=some 169:=by kernel_rfl
theorem cells_u8:Tryz.prog.cellsOf 5=1:=by kernel_rfl
theorem cells_u64:Tryz.prog.cellsOf 136=1:=by kernel_rfl
theorem cells_256:Tryz.prog.cellsOf 142=256:=by kernel_rfl
theorem cells_20:Tryz.prog.cellsOf 169=20:=by kernel_rfl
theorem gSyn:Tryz.prog.globalNamed "strconv.ErrSyntax"=some 6:=by kernel_rfl
theorem gSynType:(Tryz.prog.globals[6]?).map (·.type)=some 103:=by kernel_rfl
theorem gRng:Tryz.prog.globalNamed "strconv.ErrRange"=some 7:=by kernel_rfl
theorem gRngType:(Tryz.prog.globals[7]?).map (·.type)=some 103:=by kernel_rfl
theorem cells_es:Tryz.prog.cellsOf 224=1:=by kernel_rfl
theorem Zwh:Tryz.prog.cellsOf 9=1:=by kernel_rfl
theorem star_es:"*" ++ "errors.errorString"="*errors.errorString":=by decide
theorem row_es (u:TypeId) (h:Tryz.prog.typeName? 3 u=some "*errors.errorString"):u=222:=
 typeName_ptr_named (nm:="errors.errorString") (by rw[star_es];kernel_rfl) (by kernel_rfl) (by decide) u (by rw[star_es];exact h)
theorem max_cell (W:World) (h:W.ShapedOpen Tryz.prog):∃ m,W.cell? ⟨5,0,none⟩=some (.int .i64 m):=
 Go.Proofs.cell_of_shapedOpen_int (zero:=#[.int .i64 0]) (t:=3) h (of_decide_eq_true (by kernel_rfl)) (by kernel_rfl) rfl (by kernel_rfl) (by kernel_rfl) Tryz.underlying3
set_option maxRecDepth 100000 in
theorem Zio {W:World} (hL:laidMet Tryz.prog rowLaid W) (h:W.ShapedOpen Tryz.prog):Tb8 W:=by
 refine ⟨⟨?_,max_cell W h,?_⟩,?_,?_,?_⟩
 · obtain ⟨g',t',cs,fuel,p,hg',ht',hvar,hd⟩:=Lib.laidMet.reads hL (n:="strings.asciiSpace") (d:=Lib.tabData .u8 Lib.asciiSpaceTab) (.tail _ (.tail _ (.tail _ (.tail _ (.tail _ (.tail _ (.tail _ (.head _))))))))
   obtain rfl:=Option.some.inj (gSpace.symm.trans hg')
   obtain rfl:=Option.some.inj (gSpaceType.symm.trans ht')
   unfold Zgl Lib.TabIs
   rw[hvar,←Lib.cells_of_tab Tryz.underlying142 Tryz.underlying5 cells_u8 cells_256 hd]
 · exact utf8Tabs_of_readsT (U8Types.of196 Tryz.laysValid) ⟨by kernel_rfl,by kernel_rfl,by kernel_rfl,by kernel_rfl,by kernel_rfl,by kernel_rfl,by kernel_rfl⟩
    (Lib.laidMet.reads hL (n:="unicode/utf8.first") (d:=Lib.firstData) (.tail _ (.tail _ (.tail _ (.tail _ (.tail _ (.tail _ (.tail _ (.tail _ (.head _)))))))))) (Lib.laidMet.reads hL (n:="unicode/utf8.acceptRanges") (d:=Lib.acceptData) (.tail _ (.tail _ (.tail _ (.head _)))))
 · obtain ⟨a0,s0,hv0,-,-,-⟩:=laid_sentinel (laidMet.tail (laidMet.tail (laidMet.tail (laidMet.tail (laidMet.tail hL))))) gSyn gSynType Tryz.underlying103 row_es Tryz.underlying222 Tryz.underlying224 rfl rfl Tryz.underlying9 cells_es Zwh
   exact ⟨_,_,by have h0:=World.var?_cell gSyn hv0 0;simpa using h0⟩
 · obtain ⟨a0,s0,hv0,-,-,-⟩:=laid_sentinel (laidMet.tail (laidMet.tail (laidMet.tail (laidMet.tail hL)))) gRng gRngType Tryz.underlying103 row_es Tryz.underlying222 Tryz.underlying224 rfl rfl Tryz.underlying9 cells_es Zwh
   exact ⟨_,_,by have h0:=World.var?_cell gRng hv0 0;simpa using h0⟩
 · obtain ⟨g',t',cs,fuel,p,hg',ht',hvar,hd⟩:=Lib.laidMet.reads hL (n:="internal/strconv.uint64pow10") (d:=Lib.tabData .u64 Lib.pow10Tab) (.tail _ (.tail _ (.head _)))
   obtain rfl:=Option.some.inj (gPow.symm.trans hg')
   obtain rfl:=Option.some.inj (gPowType.symm.trans ht')
   unfold Lib.TabIs
   rw[hvar,←Lib.cells_of_tab Tryz.underlying169 Tryz.underlying136 cells_u64 cells_20 hd]
noncomputable def Zdr (os:Os):World:=
 let N:=(World.settled Tryz.prog os).heap.size
 let w0:=World.holding Tryz.prog os ⟨#[.cells (Lib.whiteT.map fun (z:Nat)=>Value.int .u16 (z:Int)).toArray 199,.cells #[.slice (some ⟨N,0,none⟩) 7 7,.slice none 0 0,.int .i64 2] 196,
  .cells #[.string ⟨#[118,97,108,117,101,32,111,117,116,32,111,102,32,114,97,110,103,101]⟩] 224,.cells #[.string ⟨#[105,110,118,97,108,105,100,32,115,121,110,116,97,120]⟩] 224],#[],[]⟩
 let put (h:Array Obj) (g:Nat) (cs:Array Value):Array Obj:=h.modify g fun
  | .cells _ t frozen=>.cells cs t frozen
  | o=>o
 let h1:=put w0.heap 0 (Lib.asciiSpaceTab.map fun z=>Value.int .u8 z).toArray
 let h2:=put h1 1 (Lib.firstTab.map fun z=>Value.int .u8 z).toArray
 let h3:=put h2 2 ((List.range 16).flatMap fun i=>[Value.int .u8 (Lib.accLo i),Value.int .u8 (Lib.accHi i)]).toArray
 let h4:=put h3 4 #[.pointer (some ⟨N+1,0,none⟩)]
 let h5:=put h4 3 (Lib.pow10Tab.map fun z=>Value.int .u64 z).toArray
 let h6:=put h5 7 #[.iface 222 (.pointer (some ⟨N+2,0,none⟩))]
 let h7:=put h6 6 #[.iface 222 (.pointer (some ⟨N+3,0,none⟩))]
 let h8:=put h7 8 ([0,1,28,2,29,14,24,3,30,22,20,15,25,17,4,8,31,27,13,23,21,19,16,7,26,12,18,6,11,5,10,9].map fun (z:Int)=>Value.int .u8 z).toArray
 let h9:=put h8 9 ([0,1,56,2,57,49,28,3,61,58,42,50,38,29,17,4,62,47,59,36,45,43,51,22,53,39,33,30,24,18,12,5,63,55,48,27,60,41,37,16,46,35,44,21,52,32,23,11,54,26,40,15,34,20,31,10,25,14,19,9,13,8,7,6].map fun (z:Int)=>Value.int .u8 z).toArray
 { w0 with heap:=h9 }
set_option maxRecDepth 100000 in
theorem Zko (os:Os) (args:Array Value):laidMet Tryz.prog rowLaid ((Zdr os).forCall (fun _ _=>0) ⟨#[],args,[]⟩).memory:=
 laidMet_of_run3 10 (by kernel_rfl) (by kernel_rfl) (by kernel_rfl)
def liveA:List UInt8:=[112,114,105,110,99,105,112,97,108,46,98,32,61,61,32,49,32,124,124,32,33,99,111,110,116,101,120,116,46,99]
def liveB:List UInt8:=[97,46,98,32,61,61,32,49]
def liveC:List UInt8:=[40,40,112,114,105,110,99,105,112,97,108,46,98,32,61,61,32,49,41,32,124,124,32,33,99,111,110,116,101,120,116,46,99,41]
def liveE:Et:=.mk 16 0 noS noS [] [Zbk 17 [.mk 8 0 ⟨#[98]⟩ noS [] [.mk 5 0 (str Zqq) noS [] []],.mk 2 1 noS noS [] []],Zbk 12 [.mk 8 0 ⟨#[99]⟩ noS [] [.mk 5 0 (str Zyv) noS [] []]]]
theorem live_p1:Zcp liveA=(some liveE,0,0):=by kernel_rfl
theorem live_p2:Zcp liveB=(none,5,1):=by kernel_rfl
theorem live_c:Zhj liveE=0:=by kernel_rfl
theorem live_z:Zhj (Zbk 0 [])=5:=by kernel_rfl
theorem live_s:Zly liveE=str liveC:=by kernel_rfl
theorem live_n:liveE.nodes≤4611686018427387904:=by decide +kernel
theorem live_zn:(Zbk 0 []).nodes≤4611686018427387904:=by decide +kernel
theorem row_mk {w:World} {P:Nat→Prop} {o:Nat} {n:Int} {s t:ByteArray} {ns:List ByteArray} {l:List Et} {r:List Value} (h:EAt w P (.mk o n s t ns l) r):∃ A c B d,r=Zav o n s t (.slice A ns.length c) (.slice B l.length d):=by
 rw[EAt]at h
 obtain ⟨A,c,B,d,rows,e,-⟩:=h
 exact ⟨A,c,B,d,e⟩
theorem Zoh (w:World) (P:Nat→Prop):EAt w P (Zbk 0 []) Zag:=by
 rw[Zbk,EAt]
 have hE:Zdz w P [] []:=by rw[Zdz]
 exact ⟨none,0,none,0,[],rfl,⟨by decide,by decide,by decide,by decide,by decide⟩,Zek.nil w none 1,(fun x h=>absurd h (by simp)),⟨by decide,by decide,by decide,by decide⟩,⟨(fun a h=>by cases h),(fun a h=>by cases h)⟩,Zek.nil w none 6,hE⟩
theorem Zhv {r:List Value} {o:Nat} {n:Int} {s t:ByteArray} {X Y:Value} (h:r=Zav o n s t X Y):Value.agg r.toArray=.agg #[.int .u8 (o:Int),.int .i64 n,.string s,.string t,X,Y]:=by rw[h];rfl
set_option maxRecDepth 100000 in
theorem Zpr (hC:Zhx) (w:World) (htab:Tb8 w):Calls Tryz.prog 12 #[] w fun e w'=>e=.returned (.bool true)∧Below w.heap.size w w':=by
 have hp1:=Zgy hC (str liveA) w (by decide +kernel) htab
 rw[show (str liveA).data.toList=liveA from rfl,live_p1]at hp1
 go_enter Tryz.func12,Tryz.ntmps12
 go_upto_region 1 with (first|(at_builtin;fail))
 go_wp2_with (first|(at_builtin;fail))
 refine hp1.mono ?_
 clear hp1
 rintro e w1 ⟨⟨v1,rfl,hres⟩,hb1⟩
 obtain ⟨r1,rfl,h61,h11,hex,-⟩:=Zdm hres
 obtain ⟨hr,-⟩:=hex _ rfl
 obtain ⟨A,c,B,d,hrw⟩:=row_mk hr
 have k01:=Blk.new w1 Zag 26
 have hba1:=Zac w1 (.cells Zag.toArray 26)
 obtain ⟨A1,hA1⟩:=Zaf (w1.alloc (.cells Zag.toArray 26))
 have hAl1:Hid (A1=w1.alloc (.cells #[.int .u8 0,.int .i64 0,.string ⟨#[]⟩,.string ⟨#[]⟩,.slice none 0 0,.slice none 0 0] 26)):=hA1
 rw[←hA1.out]at k01 hba1
 have k1:=k01.vrow r1
 have hbb1:=Zah hba1 (Nat.le_refl _) r1.toArray
 obtain ⟨B1,hB1⟩:=Zaf (A1.setRow w1.heap.size r1.toArray)
 rw[←hB1.out]at k1 hbb1
 obtain ⟨g1,hg1⟩:=Zaf w1.heap.size
 have hb2:Below w.heap.size w B1:=bt hb1 hbb1
 have hpr:=Zpl hC liveE r1 (Nw w.heap.size w1) B1 B1 (hr.below hbb1) (Below.refl _ _) (htab.below hb2) live_n
 rw[live_c,live_s]at hpr
 have kk1:=k1
 rw[hrw]at kk1
 have c1:B1.cell? ⟨w1.heap.size,0,none⟩=some (.int .u8 16):=kk1.cell 0
 have HRW:=Zai hrw
 clear hrw kk1
 go_upto_region 2 with (first
  | (at_builtin;fail)
  | (rw[←hAl1.out];refine wpList_store_row rfl 26 _ _ rfl _ r1.toArray rfl rfl 26 Zag.toArray k01 (kE6 h61) (by simp[h61,Zag,Zav]) (Zas h11) ?_;rw[←hB1.out]))
 go_wp2_with (first
  | (at_builtin;fail)
  | refine wpList_load_row rfl 26 _ rfl _ rfl 26 r1.toArray (0,0) _ k1 Tryz.underlying26 rfl (kE6 h61) ?_)
 refine hpr.mono ?_
 clear hpr
 rintro e w2 ⟨rfl,hb3⟩
 have hb4:=bt hb2 hb3
 have k1':=k1.below hb3
 clear k1 k01 hba1 hbb1 c1
 have hp2:=Zgy hC (str liveB) w2 (by decide +kernel) (htab.below hb4)
 rw[show (str liveB).data.toList=liveB from rfl,live_p2]at hp2
 go_upto_region 3 with (first|(at_builtin;fail))
 go_wp2_with (first|(at_builtin;fail))
 refine hp2.mono ?_
 clear hp2
 rintro e w3 ⟨⟨v2,rfl,hres2⟩,hb5⟩
 obtain ⟨r2,rfl,h62,h12,-,-⟩:=Zdm hres2
 have hb6:=bt hb4 hb5
 have k02:=Blk.new w3 Zag 26
 have hba2:=Zac w3 (.cells Zag.toArray 26)
 obtain ⟨A2,hA2⟩:=Zaf (w3.alloc (.cells Zag.toArray 26))
 have hAl2:Hid (A2=w3.alloc (.cells #[.int .u8 0,.int .i64 0,.string ⟨#[]⟩,.string ⟨#[]⟩,.slice none 0 0,.slice none 0 0] 26)):=hA2
 rw[←hA2.out]at k02 hba2
 have k2:=k02.vrow r2
 have hbb2:=Zah hba2 (Nat.le_refl _) r2.toArray
 obtain ⟨B2,hB2⟩:=Zaf (A2.setRow w3.heap.size r2.toArray)
 rw[←hB2.out]at k2 hbb2
 obtain ⟨g2,hg2⟩:=Zaf w3.heap.size
 have hb7:Below w.heap.size w B2:=bt hb6 hbb2
 have k3:=(k1'.below hb5).below hbb2
 rw[HRW.out]at k3
 have c1:B2.cell? ⟨w1.heap.size,0,none⟩=some (.int .u8 16):=k3.cell 0
 have e0:((str liveC).toList == [40,40,112,114,105,110,99,105,112,97,108,46,98,32,61,61,32,49,41,32,124,124,32,33,99,111,110,116,101,120,116,46,99,41])=true:=by rw[ByteArray.toList_eq];rfl
 have hch:=hC (Zbk 0 []) Zag (fun _=>True) B2 B2 (Zoh _ _) (Below.refl _ _) (htab.below hb7).tb live_zn
 rw[live_z]at hch
 go_upto_region 4 with (first
  | (at_builtin;fail)
  | (rw[←hAl2.out];refine wpList_store_row rfl 26 _ _ rfl _ r2.toArray rfl rfl 26 Zag.toArray k02 (kE6 h62) (by simp[h62,Zag,Zav]) (Zas h12) ?_;rw[←hB2.out]))
 go_wp2_with (first|(at_builtin;fail))
 refine hch.mono ?_
 rintro e w4 ⟨rfl,hb8⟩
 go_wp2_with (first|(at_builtin;fail))
 go_ret
 exact ⟨rfl,bt hb7 hb8⟩
end Go.Proofs.YtnhooehmcggmdaaGreatDoor
