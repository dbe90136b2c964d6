/- Parts of a proof about the given program: XRdW15, XRdW16, XRdW17. -/
import Derived.Laws.OwnMore
import Derived.Test.YtnhooehmcggmdaaGreatDoorZ31
import Derived.Test.YtnhooehmcggmdaaGreatDoorZ20
namespace Go.Proofs.YtnhooehmcggmdaaGreatDoor
set_option maxHeartbeats 16000000
set_option linter.unusedVariables false
set_option linter.unusedSimpArgs false
set_option linter.unusedSectionVars false
open Go.RowKit
theorem Zlc (P:Program) {base:Nat} {e:TypeId} {size g n cap off:Nat}:∀ (vs:List Value) (i:Nat) (xs:List Value) (w:World),w.ownsRow base e size (.slice (some ⟨g,0,none⟩) n cap) n xs→off+i+vs.length≤xs.length→(∀ v ∈ vs,v.oneCell'=true) →
 ∃ w',(storeCells ⟨g,off,none⟩ vs i).run P w=.ok () w'∧w'.ownsRow base e size (.slice (some ⟨g,0,none⟩) n cap) n (xs.take (off+i) ++ vs ++ xs.drop (off+i+vs.length))∧w.grownBy w' (some g)
 | [],i,xs,w,h,_,_=>by
   refine ⟨w,rfl,?_,Zab _ _⟩
   simpa using h
 | v :: rest,i,xs,w,h,hl,h1=>by
   have hlt:off+i < n * size:=by have:=h.1;simp only[List.length_cons]at hl;omega
   have hadd:(⟨g,off,none⟩:Addr).add i=⟨g,off+i,none⟩:=by unfold Addr.add;split <;> simp_all
   have hc:w.cell? ⟨g,off+i,none⟩=xs[off+i]?:=h.cellAt (off+i) hlt
   have hlx:off+i < xs.length:=by have:=h.1;omega
   have hx:xs[off+i]?=some xs[off+i]:=List.getElem?_eq_getElem hlx
   have hst:(store ((⟨g,off,none⟩:Addr).add i) v).run P w=.ok () (w.setCell ⟨g,off+i,none⟩ v):=by
    rw[hadd,run_store P w _ v _ (h1 v (by simp)),hc,hx]
    simp[h.frozenAt (off+i)]
   obtain ⟨h2,hg2⟩:=h.stored (off+i) v
   obtain ⟨w',r1,r2,r3⟩:=Zlc P (off:=off) rest (i+1) (xs.set (off+i) v) _ h2 (by rw[List.length_set];simp only[List.length_cons]at hl;omega) (fun x hx=>h1 x (by simp[hx]))
   refine ⟨w',?_,?_,hg2.trans r3⟩
   · simp only[storeCells,Sem.run_bind,hst,Result.andThen_ok,r1]
   · have e:(xs.set (off+i) v).take (off+(i+1)) ++ rest ++ (xs.set (off+i) v).drop (off+(i+1)+rest.length)=xs.take (off+i) ++ (v :: rest) ++ xs.drop (off+i+(v :: rest).length):=by
      have e1:(xs.set (off+i) v).take (off+(i+1))=xs.take (off+i) ++ [v]:=by
       rw[←Nat.add_assoc,List.take_add_one,List.getElem?_set_self hlx]
       rw[List.take_set_of_le (Nat.le_refl _)]
       rfl
      have e2:(xs.set (off+i) v).drop (off+(i+1)+rest.length)=xs.drop (off+i+(v :: rest).length):=by
       rw[List.drop_set_of_lt (by omega)]
       congr 1
       simp only[List.length_cons]
       omega
      rw[e1,e2]
      simp
     rw[e]at r2
     exact r2
theorem Zue (P:Program) {base:Nat} {e:TypeId} {g n cap:Nat} {xs last re:List Value} {w:World} (h:w.ownsRow base e 6 (.slice (some ⟨g,0,none⟩) (n+1) cap) (n+1) (xs ++ last)) (hxs:xs.length=n * 6) (hre:re.length=6) (h1:∀ v ∈ re,v.oneCell'=true) (hi:(P.info? e).map (·.size)=some 6) :
 ∃ w',(storeVar e ⟨g,n * 6,none⟩ (.agg re.toArray)).run P w=.ok () w'∧w'.ownsRow base e 6 (.slice (some ⟨g,0,none⟩) (n+1) cap) (n+1) (xs ++ re)∧w.grownBy w' (some g):=by
 have hlen:(xs ++ last).length=(n+1) * 6:=h.1
 obtain ⟨w',r1,r2,r3⟩:=Zlc P (off:=n * 6) re 0 _ w h (by rw[hlen,hre];omega) h1
 refine ⟨w',?_,?_,r3⟩
 · cases hq:P.info? e with
   | none=>simp[hq]at hi
   | some i=>
     have hs:i.size=6:=by simpa [hq] using hi
     simp[storeVar,sizeOf,typeInfo,hq,Value.cells,hs,hre,r1]
 · have e:(xs ++ last).take (n * 6+0) ++ re ++ (xs ++ last).drop (n * 6+0+re.length)=xs ++ re:=by
    rw[Nat.add_zero,hre,List.take_append_of_le_length (by omega),List.take_of_length_le (by omega),List.drop_of_length_le (by rw[hlen];omega),List.append_nil]
   rw[e]at r2
   exact r2
def sRow (o:Nat) (vn vk:Value):List Value:=[.int .u8 (o:Int),.int .i64 0,.string ⟨#[]⟩,.string ⟨#[]⟩,vn,vk]
def Zjq (p3 o:Nat) (u:World) (ns:List ByteArray) (l:List Et):Prop:=∃ (vn vk:Value) (rows:List (List Value)),Blk u p3 (sRow o vn vk) 26 ∧
 u.ownsRow (p3+1) 9 1 vn ns.length (ns.map .string)∧u.ownsRow (p3+1) 26 6 vk l.length rows.flatten∧(∀ g,vn.ownBlock=some g→vk.ownBlock ≠ some g) ∧
 Zdz u (fun b=>p3 < b∧b < u.heap.size∧some b ≠ vk.ownBlock∧some b ≠ vn.ownBlock) l rows
theorem Zdz.keep {w w':World} {P Q:Nat→Prop} {l:List Et} {rows:List (List Value)} (h:Zdz w P l rows) (hk:∀ (p:Addr) v,P p.block→w.cell? p=some v→w'.cell? p=some v) (hPQ:∀ b,P b→Q b):Zdz w' Q l rows:=
 Zjm h (fun x r _ hx=>hx.keep hk hPQ)
theorem Zdz.grown {w w':World} {q:Option Nat} {P Q:Nat→Prop} {l:List Et} {rows:List (List Value)} (h:Zdz w P l rows) (hg:w.grownBy w' q) (hP:∀ b,P b→some b ≠ q) (hPQ:∀ b,P b→Q b):Zdz w' Q l rows:=
 h.keep (fun p v hp hv=>hg.cell hv (fun e=>hP p.block hp e)) hPQ
theorem EAt.grownQ {w w':World} {q:Option Nat} {P Q:Nat→Prop} {t:Et} {r:List Value} (h:EAt w P t r) (hg:w.grownBy w' q) (hP:∀ b,P b→some b ≠ q) (hPQ:∀ b,P b→Q b):EAt w' Q t r:=
 h.keep (fun p v hp hv=>hg.cell hv (fun e=>hP p.block hp e)) hPQ
theorem Blk.grownQ {w w':World} {q:Option Nat} {g:Nat} {vs:List Value} {t:TypeId} (h:Blk w g vs t) (hg:w.grownBy w' q) (hne:some g ≠ q):Blk w' g vs t:=(hg.block g h.lt hne).trans h
theorem Zbg.grownQ {w w':World} {q:Option Nat} {p:Nat} {ts:List Tok} (h:Zbg w p ts) (hg:w.grownBy w' q) (hq:∀ k,q=some k→p < k):Zbg w' p ts:=by
 obtain ⟨A,c,h1,h2,h3,h4⟩:=h
 refine ⟨A,c,h1.grownQ hg (fun e=>by have:=hq p e.symm;omega),⟨h2.1,fun hn=>?_⟩,h3,h4⟩
 obtain ⟨b,o,hA,hc⟩:=h2.2 hn
 exact ⟨b,o,hA,fun j x hx=>hg.cell (hc j x hx) (fun e=>by have:=hq b e.symm;have:=h3 _ hA;simp only[]at this;omega)⟩
theorem Zhh {w u u':World} {q r:Option Nat} (h:w.grownBy u r) (hg:u.grownBy u' q) (hq:∀ k,q=some k→w.heap.size≤k):w.grownBy u' r:=
 ⟨hg.os.trans h.os,hg.tape.trans h.tape,hg.output.trans h.output,Nat.le_trans h.size hg.size,fun i hi hne=>(hg.block i (Nat.lt_of_lt_of_le hi h.size) (fun e=>by have:=hq i e.symm;omega)).trans (h.block i hi hne)⟩
structure ApC (w:World) (p p1 p3 B:Nat) (l:List Et) (vn vk:Value):Prop where
 h1:p < p1
 h3:p1 < p3
 hB:p3 < B
 hw:w.heap.size≤p3
 hk:∀ g,vk.ownBlock=some g→p3 < g∧g < B
 hn:∀ g,vn.ownBlock=some g→p3 < g∧g < B
 hne:∀ g,vn.ownBlock=some g→vk.ownBlock ≠ some g
 hl:l.length≤4096
structure ApS (w:World) (p p1 p3 B o:Nat) (ns:List ByteArray) (l:List Et) (rows:List (List Value)) (vn vk:Value) (e:Et) (r1 r2:List Tok) (L3 L6 L10:Bool) (v:Nat→Value) (u:World):Prop where
 hg:w.grownBy u (some p)
 hB:B≤u.heap.size
 rd:Zbg u p (if L3 then r2 else r1)
 bx:Blk u p1 [.pointer (some ⟨p,0,none⟩)] 84
 row:L10=false→Blk u p3 (sRow o vn vk) 26
 row':v 10=.bool true→Blk u p3 (sRow o vn (v 6)) 26
 own_n:u.ownsRow (p3+1) 9 1 vn ns.length (ns.map .string)
 old:Zdz u (fun b=>p3 < b∧b < B∧some b ≠ vk.ownBlock∧some b ≠ vn.ownBlock) l rows
 own_k:L6=false→u.ownsRow (p3+1) 26 6 vk l.length rows.flatten
 pre:L6=false→v 6=undef∧v 7=undef∧v 8=undef∧v 10=undef
 tree:∀ a,v 3=.agg a→∃ re:List Value,a=re.toArray∧EAt u (fun b=>B≤b∧b < u.heap.size∧some b ≠ (v 6).ownBlock) e re
 one:∀ g m c,v 5=.slice (some ⟨g,0,none⟩) m c→m=1∧c=1∧B≤g∧(L6=false→Blk u g Zag 26)
 app:∀ g m c,v 6=.slice (some ⟨g,0,none⟩) m c→m=l.length+1∧∃ last:List Value,last.length=6∧u.ownsRow (p3+1) 26 6 (v 6) (l.length+1) (rows.flatten ++ last)∧(vk.ownBlock=some g∨B≤g)∧(v 8=.bool true→v 3=.agg last.toArray)
 idx:∀ k i,v 7=.pointer (some ⟨k,i,none⟩)→i=l.length * 6∧∃ m c,v 6=.slice (some ⟨k,0,none⟩) m c
section
variable {w:World} {p p1 p3 B o:Nat} {ns:List ByteArray} {l:List Et} {rows:List (List Value)} {vn vk:Value} {e:Et} {r1 r2:List Tok} {L3 L6 L10:Bool} {v:Nat→Value} {u u':World}
theorem Zbs {v:Nat→Value} {k j:Nat} (x:Value) (h:j ≠ k):Zcq v k x j=v j:=if_neg h
theorem Zor (v:Nat→Value) (k:Nat) (x:Value):Zcq v k x k=x:=if_pos rfl
theorem ApS.quiet (h:ApS w p p1 p3 B o ns l rows vn vk e r1 r2 L3 L6 L10 v u) (k:Nat) (hk:k=0∨k=1∨k=2∨k=4∨k=9) (x:Value):ApS w p p1 p3 B o ns l rows vn vk e r1 r2 L3 L6 L10 (Zcq v k x) u:=by
 have e3:Zcq v k x 3=v 3:=Zbs x (by omega)
 have e5:Zcq v k x 5=v 5:=Zbs x (by omega)
 have e6:Zcq v k x 6=v 6:=Zbs x (by omega)
 have e7:Zcq v k x 7=v 7:=Zbs x (by omega)
 have e8:Zcq v k x 8=v 8:=Zbs x (by omega)
 have e10:Zcq v k x 10=v 10:=Zbs x (by omega)
 exact ⟨h.hg,h.hB,h.rd,h.bx,h.row,by rw[e10,e6];exact h.row',h.own_n,h.old,h.own_k,by rw[e6,e7,e8,e10];exact h.pre,by rw[e3,e6];exact h.tree,by rw[e5];exact h.one,by rw[e6,e8,e3];exact h.app,by rw[e7,e6];exact h.idx⟩
theorem ApS.kid (C:ApC w p p1 p3 B l vn vk) (h:ApS w p p1 p3 B o ns l rows vn vk e r1 r2 L3 false L10 v u) (hg:u.grownBy u' (some p)) (hd:Zbg u' p r2) {re:List Value} (hv:EAt u' (Nw u.heap.size u') e re):ApS w p p1 p3 B o ns l rows vn vk e r1 r2 true false L10 (Zcq v 3 (.agg re.toArray)) u':=by
 obtain ⟨c1,c3,cB,cw,ck,cn,cne,cl⟩:=C
 have hpB:B≤u'.heap.size:=Nat.le_trans h.hB hg.size
 have e5:Zcq v 3 (.agg re.toArray) 5=v 5:=Zbs _ (by omega)
 have e6:Zcq v 3 (.agg re.toArray) 6=v 6:=Zbs _ (by omega)
 have e7:Zcq v 3 (.agg re.toArray) 7=v 7:=Zbs _ (by omega)
 have e8:Zcq v 3 (.agg re.toArray) 8=v 8:=Zbs _ (by omega)
 have e10:Zcq v 3 (.agg re.toArray) 10=v 10:=Zbs _ (by omega)
 obtain ⟨p6,p7,p8,p10⟩:=h.pre rfl
 refine ⟨h.hg.trans hg,hpB,by simpa using hd,h.bx.grown hg (by omega),fun q=>(h.row q).grown hg (by omega),by rw[e10,p10];exact fun q=>(by cases q),h.own_n.kept hg ?_,h.old.grown hg (fun b hb e=>by have:=Option.some.inj e;have:=hb.1;omega) (fun b hb=>hb),fun q=>(h.own_k q).kept hg ?_,by rw[e6,e7,e8,e10];exact h.pre,?_,?_,by rw[e6,p6];exact fun g m c q=>(by cases q),by rw[e7,p7];exact fun k i q=>(by cases q)⟩
 · cases hq:vn.ownBlock with
   | none=>exact .inl rfl
   | some g=>exact .inr (fun q=>by have:=Option.some.inj q;have:=cn g hq;omega)
 · cases hq:vk.ownBlock with
   | none=>exact .inl rfl
   | some g=>exact .inr (fun q=>by have:=Option.some.inj q;have:=ck g hq;omega)
 · rw[e6,p6]
   intro a ha
   rw[Zor]at ha
   cases ha
   exact ⟨re,rfl,hv.imp (fun b hb=>⟨Nat.le_trans h.hB hb.1,hb.2,fun q=>by cases q⟩)⟩
 · rw[e5]
   intro g m c q
   obtain ⟨a1,a2,a3,a4⟩:=h.one g m c q
   exact ⟨a1,a2,a3,fun q=>(a4 q).grown hg (by omega)⟩
theorem ApS.lit (C:ApC w p p1 p3 B l vn vk) (h:ApS w p p1 p3 B o ns l rows vn vk e r1 r2 L3 false L10 v u):ApS w p p1 p3 B o ns l rows vn vk e r1 r2 L3 false L10 (Zcq v 5 (.slice (some ⟨u.heap.size,0,none⟩) 1 1)) (u.alloc (.cells Zag.toArray 26)):=by
 obtain ⟨c1,c3,cB,cw,ck,cn,cne,cl⟩:=C
 have hb:=Zac u (.cells Zag.toArray 26)
 have hg:=Zad hb (some p)
 obtain ⟨x,hx⟩:∃ x,x=Value.slice (some ⟨u.heap.size,0,none⟩) 1 1:=⟨_,rfl⟩
 rw[←hx]
 have e3:Zcq v 5 x 3=v 3:=Zbs _ (by omega)
 have e6:Zcq v 5 x 6=v 6:=Zbs _ (by omega)
 have e7:Zcq v 5 x 7=v 7:=Zbs _ (by omega)
 have e8:Zcq v 5 x 8=v 8:=Zbs _ (by omega)
 have e10:Zcq v 5 x 10=v 10:=Zbs _ (by omega)
 obtain ⟨p6,p7,p8,p10⟩:=h.pre rfl
 refine ⟨h.hg.trans hg,Nat.le_trans h.hB hg.size,h.rd.below hb,h.bx.below hb,fun q=>(h.row q).below hb,by rw[e10,p10];exact fun q=>(by cases q),h.own_n.alloc _,h.old.grown (Zad hb none) (fun b hb e=>by cases e) (fun b hb=>hb),fun q=>(h.own_k q).alloc _,by rw[e6,e7,e8,e10];exact h.pre,?_,?_,by rw[e6,p6];exact fun g m c q=>(by cases q),by rw[e7,p7];exact fun k i q=>(by cases q)⟩
 · rw[e3,e6]
   intro a ha
   obtain ⟨re,h1,h2⟩:=h.tree a ha
   exact ⟨re,h1,h2.grownQ (Zad hb none) (fun b hb e=>by cases e) (fun b hb=>⟨hb.1,Nat.lt_of_lt_of_le hb.2.1 hg.size,hb.2.2⟩)⟩
 · intro g m c q
   rw[Zor,hx]at q
   cases q
   exact ⟨rfl,rfl,h.hB,fun _=>Blk.new u Zag _⟩
theorem ApS.appended (C:ApC w p p1 p3 B l vn vk) (h:ApS w p p1 p3 B o ns l rows vn vk e r1 r2 L3 false false v u) {x:Value} (hown:u'.ownsRow (p3+1) 26 6 x (l.length+1) (rows.flatten ++ Zag)) (hg:u.grownBy u' vk.ownBlock) (hx:x.ownBlock=vk.ownBlock∨x.ownBlock=some u.heap.size):ApS w p p1 p3 B o ns l rows vn vk e r1 r2 L3 true false (Zcq v 6 x) u':=by
 obtain ⟨c1,c3,cB,cw,ck,cn,cne,cl⟩:=C
 have e3:Zcq v 6 x 3=v 3:=Zbs _ (by omega)
 have e5:Zcq v 6 x 5=v 5:=Zbs _ (by omega)
 have e7:Zcq v 6 x 7=v 7:=Zbs _ (by omega)
 have e8:Zcq v 6 x 8=v 8:=Zbs _ (by omega)
 have e10:Zcq v 6 x 10=v 10:=Zbs _ (by omega)
 obtain ⟨p6,p7,p8,p10⟩:=h.pre rfl
 refine ⟨Zhh h.hg hg (fun k q=>by have:=ck k q;omega),Nat.le_trans h.hB hg.size,h.rd.grownQ hg (fun k q=>by have:=ck k q;omega),h.bx.grownQ hg (fun q=>by have:=ck p1 q.symm;omega),fun q=>(h.row q).grownQ hg (fun q=>by have:=ck p3 q.symm;omega),by rw[e10,p10];exact fun q=>(by cases q),h.own_n.kept hg ?_,h.old.grown hg (fun b hb e=>hb.2.2.1 e) (fun b hb=>hb),fun q=>(by cases q),fun q=>(by cases q),?_,?_,?_,by rw[e7,p7];exact fun k i q=>(by cases q)⟩
 · cases hq:vn.ownBlock with
   | none=>exact .inl rfl
   | some g=>exact .inr (fun q=>cne g hq q.symm)
 · rw[e3]
   intro a ha
   obtain ⟨re,h1,h2⟩:=h.tree a ha
   refine ⟨re,h1,h2.grownQ hg (fun b hb e=>by have:=ck b e.symm;have:=hb.1;omega) (fun b hb=>⟨hb.1,Nat.lt_of_lt_of_le hb.2.1 hg.size,fun q=>?_⟩)⟩
   rw[Zor]at q
   rcases hx with hx|hx
   · rw[hx]at q
     have:=ck b q.symm
     have:=hb.1
     omega
   · rw[hx]at q
     have:=Option.some.inj q
     have:=hb.2.1
     omega
 · rw[e5]
   intro g m c q
   obtain ⟨a1,a2,a3,a4⟩:=h.one g m c q
   exact ⟨a1,a2,a3,fun q=>by cases q⟩
 · rw[Zor,e8,p8]
   rintro g m c rfl
   refine ⟨?_,Zag,rfl,hown,?_,fun q=>by cases q⟩
   · rcases hown.2 with ⟨q,_⟩|⟨g',cap,cur,q,_⟩
     · cases q
     · cases q;rfl
   · rcases hx with hx|hx
     · exact .inl hx.symm
     · exact .inr (by have q:g=u.heap.size:=Option.some.inj hx;have:=h.hB;omega)
theorem ApS.place (h:ApS w p p1 p3 B o ns l rows vn vk e r1 r2 L3 L6 L10 v u) {g m c:Nat} (h6:v 6=.slice (some ⟨g,0,none⟩) m c):ApS w p p1 p3 B o ns l rows vn vk e r1 r2 L3 L6 L10 (Zcq v 7 (.pointer (some ⟨g,l.length * 6,none⟩))) u:=by
 obtain ⟨x,hx⟩:∃ x,x=Value.pointer (some ⟨g,l.length * 6,none⟩):=⟨_,rfl⟩
 rw[←hx]
 have e3:Zcq v 7 x 3=v 3:=Zbs _ (by omega)
 have e5:Zcq v 7 x 5=v 5:=Zbs _ (by omega)
 have e6:Zcq v 7 x 6=v 6:=Zbs _ (by omega)
 have e8:Zcq v 7 x 8=v 8:=Zbs _ (by omega)
 have e10:Zcq v 7 x 10=v 10:=Zbs _ (by omega)
 refine ⟨h.hg,h.hB,h.rd,h.bx,h.row,by rw[e10,e6];exact h.row',h.own_n,h.old,h.own_k,fun q=>?_,by rw[e3,e6];exact h.tree,by rw[e5];exact h.one,by rw[e6,e8,e3];exact h.app,?_⟩
 · have:=(h.pre q).1
   rw[h6]at this
   cases this
 · intro k i q
   rw[Zor,hx]at q
   cases q
   exact ⟨rfl,m,c,by rw[e6];exact h6⟩
theorem ApS.stored (C:ApC w p p1 p3 B l vn vk) (h:ApS w p p1 p3 B o ns l rows vn vk e r1 r2 L3 true L10 v u) {g m c:Nat} (h6:v 6=.slice (some ⟨g,0,none⟩) m c) {re:List Value} (h3:v 3=.agg re.toArray) (hre:re.length=6) (hown:u'.ownsRow (p3+1) 26 6 (v 6) (l.length+1) (rows.flatten ++ re)) (hg:u.grownBy u' (some g)):ApS w p p1 p3 B o ns l rows vn vk e r1 r2 L3 true L10 (Zcq v 8 (.bool true)) u':=by
 obtain ⟨c1,c3,cB,cw,ck,cn,cne,cl⟩:=C
 obtain ⟨hm,last,-,-,hgb,-⟩:=h.app g m c h6
 have hg3:p3 < g:=by
  rcases hgb with q|q
  · exact (ck g q).1
  · omega
 have e3:Zcq v 8 (.bool true) 3=v 3:=Zbs _ (by omega)
 have e5:Zcq v 8 (.bool true) 5=v 5:=Zbs _ (by omega)
 have e6:Zcq v 8 (.bool true) 6=v 6:=Zbs _ (by omega)
 have e7:Zcq v 8 (.bool true) 7=v 7:=Zbs _ (by omega)
 have e10:Zcq v 8 (.bool true) 10=v 10:=Zbs _ (by omega)
 refine ⟨Zhh h.hg hg (fun k q=>by have:=Option.some.inj q;omega),Nat.le_trans h.hB hg.size,h.rd.grownQ hg (fun k q=>by have:=Option.some.inj q;omega),h.bx.grownQ hg (fun q=>by have:=Option.some.inj q;omega),fun q=>(h.row q).grownQ hg (fun q=>by have:=Option.some.inj q;omega),?_,h.own_n.kept hg ?_,h.old.grown hg (fun b hb e=>?_) (fun b hb=>hb),fun q=>(by cases q),fun q=>(by cases q),?_,?_,?_,by rw[e7,e6];exact h.idx⟩
 · rw[e10,e6]
   exact fun q=>(h.row' q).grownQ hg (fun q=>by have:=Option.some.inj q;omega)
 · cases hq:vn.ownBlock with
   | none=>exact .inl rfl
   | some k=>
     refine .inr (fun q=>?_)
     cases q
     rcases hgb with q|q
     · exact cne g hq q
     · have:=cn g hq
       omega
 · cases e
   rcases hgb with q|q
   · exact hb.2.2.1 q.symm
   · have:=hb.2.1
     omega
 · rw[e3,e6]
   intro a ha
   obtain ⟨re,h1,h2⟩:=h.tree a ha
   refine ⟨re,h1,h2.grownQ hg (fun b hb e=>?_) (fun b hb=>⟨hb.1,Nat.lt_of_lt_of_le hb.2.1 hg.size,hb.2.2⟩)⟩
   rw[h6]at hb
   exact hb.2.2 e
 · rw[e5]
   intro g m c q
   obtain ⟨a1,a2,a3,a4⟩:=h.one g m c q
   exact ⟨a1,a2,a3,fun q=>by cases q⟩
 · rw[e6,e3]
   intro g' m' c' q
   rw[h6]at q
   cases q
   exact ⟨hm,re,hre,hown,hgb,fun _=>h3⟩
theorem ApS.laid (C:ApC w p p1 p3 B l vn vk) (h:ApS w p p1 p3 B o ns l rows vn vk e r1 r2 L3 true L10 v u) (hr:Blk u p3 (sRow o vn vk) 26) {g m c:Nat} (h6:v 6=.slice (some ⟨g,0,none⟩) m c):ApS w p p1 p3 B o ns l rows vn vk e r1 r2 L3 true true (Zcq v 10 (.bool true)) (u.setCell ⟨p3,5,none⟩ (v 6)):=by
 obtain ⟨c1,c3,cB,cw,ck,cn,cne,cl⟩:=C
 have hg:=Zbn u p3 5 (v 6)
 obtain ⟨hm,last,h61,h62,hgb,h64⟩:=h.app g m c h6
 have hg3:p3 < g:=by
  rcases hgb with q|q
  · exact (ck g q).1
  · omega
 have e3:Zcq v 10 (.bool true) 3=v 3:=Zbs _ (by omega)
 have e5:Zcq v 10 (.bool true) 5=v 5:=Zbs _ (by omega)
 have e6:Zcq v 10 (.bool true) 6=v 6:=Zbs _ (by omega)
 have e7:Zcq v 10 (.bool true) 7=v 7:=Zbs _ (by omega)
 have e8:Zcq v 10 (.bool true) 8=v 8:=Zbs _ (by omega)
 refine ⟨Zhh h.hg hg (fun k q=>by have:=Option.some.inj q;omega),Nat.le_trans h.hB hg.size,h.rd.grownQ hg (fun k q=>by have:=Option.some.inj q;omega),h.bx.grownQ hg (fun q=>by have:=Option.some.inj q;omega),fun q=>(by cases q),?_,h.own_n.kept hg ?_,h.old.grown hg (fun b hb e=>by have:=Option.some.inj e;have:=hb.1;omega) (fun b hb=>hb),fun q=>(by cases q),fun q=>(by cases q),?_,?_,?_,by rw[e7,e6];exact h.idx⟩
 · rw[e6]
   exact fun _=>hr.set 5 (v 6)
 · cases hq:vn.ownBlock with
   | none=>exact .inl rfl
   | some k=>exact .inr (fun q=>by have:=Option.some.inj q;have:=cn k hq;omega)
 · rw[e3,e6]
   intro a ha
   obtain ⟨re,h1,h2⟩:=h.tree a ha
   exact ⟨re,h1,h2.grownQ hg (fun b hb e=>by have:=Option.some.inj e;have:=hb.1;omega) (fun b hb=>⟨hb.1,Nat.lt_of_lt_of_le hb.2.1 hg.size,hb.2.2⟩)⟩
 · rw[e5]
   intro g m c q
   obtain ⟨a1,a2,a3,a4⟩:=h.one g m c q
   exact ⟨a1,a2,a3,fun q=>by cases q⟩
 · rw[e6,e8,e3]
   intro g' m' c' q
   rw[h6]at q
   cases q
   exact ⟨hm,last,h61,h62.kept hg (.inr (by rw[h6];exact fun q=>by have q2:g=p3:=Option.some.inj q;omega)),hgb,h64⟩
theorem ApS.done (C:ApC w p p1 p3 B l vn vk) (h:ApS w p p1 p3 B o ns l rows vn vk e r1 r2 true true true v u) (h6:∃ g m c,v 6=.slice (some ⟨g,0,none⟩) m c) (h8:v 8=.bool true) (h10:v 10=.bool true):w.grownBy u (some p)∧Zbg u p r2∧Blk u p1 [.pointer (some ⟨p,0,none⟩)] 84∧Zjq p3 o u ns (l ++ [e]):=by
 obtain ⟨c1,c3,cB,cw,ck,cn,cne,cl⟩:=C
 obtain ⟨g,m,c,h6⟩:=h6
 obtain ⟨hm,last,h61,h62,hgb,h64⟩:=h.app g m c h6
 obtain ⟨re,hq,htree⟩:=h.tree _ (h64 h8)
 obtain rfl:last=re:=by simpa using hq
 have hob:(v 6).ownBlock=some g:=by rw[h6];rfl
 refine ⟨h.hg,h.rd,h.bx,vn,v 6,rows ++ [last],h.row' h10,h.own_n,by simpa using h62,fun k hk q=>?_,?_⟩
 · rw[hob]at q
   cases q
   rcases hgb with q|q
   · exact cne g hk q
   · have:=cn g hk
     omega
 · refine Zvx (h.old.keep (fun _ _ _ h=>h) (fun b hb=>⟨hb.1,by have:=h.hB;have:=hb.2.1;omega,fun q=>?_,hb.2.2.2⟩)) (htree.imp (fun b hb=>⟨by have:=hb.1;omega,hb.2.1,hb.2.2,fun q=>?_⟩))
   · rw[hob]at q
     cases q
     rcases hgb with q|q
     · exact hb.2.2.1 q.symm
     · have:=hb.2.1
       omega
   · have:=cn b q.symm
     have:=hb.1
     omega
end
theorem Zgm {P:Program} {o:Oper} {a:Act} {w u':World} {K:Act→World→Prop} {Q:Exit→Act→World→Prop} (ty:TypeId) (x y:Operand) (ho:o.op=.store ty x y) (q:Addr) (v:Value) (hx:a.eval x=.pointer (some q)) (hy:a.eval y=v)
 (hr:(storeVar ty q v).run P w=.ok () u') (h:K (a.put o.dst undef) u'):o.wp P a w K Q:=by
 unfold Oper.wp execOp
 simp only[ho,hx,hy,Instr.storeAt,Instr.sureAddr,Sem.run_bind,Sem.run_pure,Result.andThen_ok,hr]
 exact h
theorem Zoy {P:Program} {w:World} (ty:TypeId) {q:Addr} {v old:Value} (hi:(P.info? ty).map (·.size)=some 1) (hc:w.cell? q=some old) (hf:w.frozen? q=false) (h1:v.oneCell'=true):(storeVar ty q v).run P w=.ok () (w.setCell q v):=by
 have hcs:v.cells=#[v]:=by cases v <;> first|rfl|cases h1
 have hadd:q.add 0=q:=by unfold Addr.add;split <;> simp_all
 cases hq:P.info? ty with
 | none=>simp[hq]at hi
 | some i=>
   have hs:i.size=1:=by simpa [hq] using hi
   simp[storeVar,sizeOf,typeInfo,hq,hcs,hs,storeCells,hadd,run_store P w q v _ h1,hc,hf]
theorem Zpo {w:World} {base:Nat} {e:TypeId} {size n:Nat} {v:Value} {xs:List Value} (h:w.ownsRow base e size v (n+1) xs):∃ g c,v=.slice (some ⟨g,0,none⟩) (n+1) c:=by
 rcases h.2 with ⟨_,h⟩|⟨g,cap,cur,h,_⟩
 · cases h
 · exact ⟨g,cap,h⟩
theorem Zmb {w:World} {base:Nat} {e:TypeId} {size n:Nat} {v:Value} {xs:List Value} (h:w.ownsRow base e size v n xs):∃ A c,v=.slice A n c:=by
 rcases h.2 with ⟨h,h2⟩|⟨g,cap,cur,h,_⟩
 · exact ⟨none,0,by rw[h,h2]⟩
 · exact ⟨_,cap,h⟩
theorem Zfp:∀ u ∈ Zag,u.oneCell'=true:=by
 intro u hu
 simp only[Zag,Zav,List.mem_cons,List.not_mem_nil,or_false]at hu
 rcases hu with rfl|rfl|rfl|rfl|rfl|rfl <;> rfl
theorem Zof:(Tryz.prog.info? 26).map (fun i=>(i.zero,i.size,i.bytes))=some (some (.agg Zag.toArray),6,96):=by kernel_rfl
def Zyr {α:Type} (w:World) (p p1 p3:Nat) (x:Zcs α) (Z:α→World→Prop) (e:Ending) (w':World):Prop:=
 w.grownBy w' (some p)∧match x with
  | .ok (e1,r2)=>e=.returned (.tuple #[])∧Zbg w' p r2∧Blk w' p1 [.pointer (some ⟨p,0,none⟩)] 84∧Z e1 w'
  | .error e0=>Zbg w' p e0∧e=.panicked Zgu
set_option maxRecDepth 100000 in
theorem rset1_w (n:Nat) (hX:Zla 55 .expr n) (w w0 u0:World) (p p1 p3 o:Nat) (ns:List ByteArray) (l:List Et) (r1:List Tok) (hp1:p < p1) (hp3:p1 < p3) (hwp:w.heap.size≤p3) (hll:l.length≤4096) (hE:Env w0 p w) (hok:Zhb r1)
 (hg:w.grownBy u0 (some p)) (hd:Zbg u0 p r1) (hbx:Blk u0 p1 [.pointer (some ⟨p,0,none⟩)] 84) (hI:Zjq p3 o u0 ns l) (f:Nat) (hf:f≤n) (x:Zcs Et) (hx:pr f .expr r1=some x) :
 Calls Tryz.prog 208 #[.pointer (some ⟨p3,0,none⟩),.pointer (some ⟨p1,0,none⟩)] u0 fun e w'=>Zyr w p p1 p3 x (fun e1 w'=>Zjq p3 o w' ns (l ++ [e1])) e w':=by
 obtain ⟨vn,vk,rows,kr,hon,hok9,hne,hes⟩:=hI
 obtain ⟨Ak,ck,rfl⟩:=Zmb hok9
 obtain ⟨B,hB⟩:=Zaf u0.heap.size
 have hlt3:p3 < B:=by rw[hB.out];exact kr.lt
 have C:ApC w p p1 p3 B l vn (.slice Ak l.length ck):=⟨hp1,hp3,hlt3,hwp,fun g q=>by have:=Zht hok9 g q;rw[hB.out];omega,fun g q=>by have:=Zht hon g q;rw[hB.out];omega,hne,hll⟩
 have hrows:rows.flatten.length=l.length * 6:=Zci hes
 have hgd:u0.grownBy u0.drew (some p):=Zad (Zaj (Below.refl _ _)) _
 obtain ⟨j0,hj⟩:∃ i,Tryz.prog.info? 26=some i:=by
  cases hq:Tryz.prog.info? 26 with
  | none=>have:=Zof;rw[hq]at this;cases this
  | some i=>exact ⟨i,rfl⟩
 have hy:=Zof
 rw[hj]at hy
 have hy0:j0.zero=some (.agg Zag.toArray):=congrArg (fun z=>z.1) (Option.some.inj hy)
 have hy1:j0.size=6:=congrArg (fun z=>z.2.1) (Option.some.inj hy)
 have hy2:j0.bytes=96:=congrArg (fun z=>z.2.2) (Option.some.inj hy)
 have hy3:(Value.agg Zag.toArray).cells.size=6:=rfl
 clear hy
 go_enter Tryz.func208,Tryz.ntmps208
 go_upto_region 0 with (first|(at_builtin;fail))
 cases x with
 | error e0=>
   have hone:∀ (u:World),Zbg u p r1→Env w0 p u→Calls Tryz.prog 55 #[.pointer (some ⟨p,0,none⟩)] u fun e w'=>u.grownBy w' (some p)∧Zbg w' p e0∧e=.panicked Zgu:=fun u a b=>hX f hf p w0 u r1 (.error e0) a hok b hx
   obtain ⟨x,hq⟩:∃ x:Zcs Et,x=.error e0:=⟨_,rfl⟩
   rw[←hq]
   obtain ⟨r2,-⟩:∃ r2:List Tok,r2=[]:=⟨_,rfl⟩
   obtain ⟨e,-⟩:∃ e:Et,e=Zbk 0 []:=⟨_,rfl⟩
   have hS0:ApS w p p1 p3 B o ns l rows vn (.slice Ak l.length ck) e r1 r2 ((fun _:Nat=>false) 3) ((fun _:Nat=>false) 6) ((fun _:Nat=>false) 10) (fun _=>undef) u0.drew:=⟨hg.trans hgd,Nat.le_of_eq hB.out,hd,hbx,fun _=>kr,fun q=>(by cases q),hon,hes.keep (fun _ _ _ h=>h) (fun b hb=>⟨hb.1,by rw[hB.out];exact hb.2.1,hb.2.2⟩),fun _=>hok9,fun _=>⟨rfl,rfl,rfl,rfl⟩,fun a q=>(by cases q),fun g m c q=>(by cases q),fun g m c q=>(by cases q),fun k i q=>by cases q⟩
   refine Zcz (fun ex u=>ex=.panic Zgu∧x=.error e0∧w.grownBy u (some p)∧Zbg u p e0) (by
    rintro ex b u hb ⟨rfl,h1,h2,h3⟩
    refine ⟨hb,?_⟩
    rw[h1]
    exact ⟨h2,h3,rfl⟩) (fun L v u=>ApS w p p1 p3 B o ns l rows vn (.slice Ak l.length ck) e r1 r2 (L 3) (L 6) (L 10) v u) (fun _ _ _=>True) _ (by kernel_rfl) (by kernel_rfl) (fun v=>by simp only[Zbx,Act.put,List.toList_toArray,Zl2,Zl0,Zl1,Nat.reduceAdd,Nat.zero_add];rfl) hS0 (fun L L' v u hL h=>by rw[←hL 3 (by decide),←hL 6 (by decide),←hL 10 (by decide)];exact h) ?_
   refine Zat [] _ (fun L hL hcl v u hS hd K' hK=>by
    simp only[Act.put,Zl2,Zl0,Zl1]at hK
    go_simp
    exact hK.out _ ⟨hS.quiet _ (by decide) _,trivial⟩) (by kernel_rfl) (j:=1) rfl ?_
   refine Zat [0] _ (fun L hL hcl v u hS hd K' hK=>by
    simp only[Zal,Zak,eqv,Zl3,Zl4,Nat.reduceSub]at hd
    simp only[Act.put,Zl2,Zl0,Zl1]at hK
    try simp only[hd]at hK
    have hq10:L 10=false:=by
     cases hq:L 10 with
     | false=>rfl
     | true=>have:=hcl 10 1 hq (by kernel_rfl);rw[hL]at this;cases this
    have k7:=hS.row hq10
    have c5:u.cell? ⟨p3,5,none⟩=some (.slice Ak l.length ck):=k7.cell 5
    go_simp
    exact hK.out _ ⟨hS.quiet _ (by decide) _,trivial⟩) (by kernel_rfl) (j:=2) rfl ?_
   refine Zat [] _ (fun L hL hcl v u hS hd K' hK=>by
    simp only[Act.put,Zl2,Zl0,Zl1]at hK
    have c0:u.cell? ⟨p1,0,none⟩=some (.pointer (some ⟨p,0,none⟩)):=hS.bx.cell 0
    go_simp
    exact hK.out _ ⟨hS.quiet _ (by decide) _,trivial⟩) (by kernel_rfl) (j:=3) rfl ?_
   refine Zar [2] (fun _ _=>False) ((fun _ _ _ _ _ _ h=>h)) (fun L hL hcl v u hS hd K' hK=>by
    simp only[Zal,Zak,eqv,Zl3,Zl4,Nat.reduceSub]at hd
    simp only[Act.put,Zl2,Zl0,Zl1]at hK
    try simp only[hd]at hK
    go_simp
    have hrd:=hS.rd
    rw[hL]at hrd
    refine (hone u hrd (hE.step hS.hg)).mono ?_
    rintro e9 u1 ⟨hg9,hd9,rfl⟩
    first|exact ⟨rfl,hq,hS.hg.trans hg9,hd9⟩|exact ⟨rfl,hS.hg.trans hg9,hd9⟩|exact ⟨hS.hg.trans hg9,hd9⟩) (by kernel_rfl) (j:=4) rfl ?_
   refine Zat [1] _ (fun L hL hcl v u hS hd K' hK=>by
    simp only[Zal,Zak,eqv,Zl3,Zl4,Nat.reduceSub]at hd
    simp only[Act.put,Zl2,Zl0,Zl1]at hK
    try simp only[hd]at hK
    go_simp
    exact hK.out _ ⟨hS.quiet _ (by decide) _,trivial⟩) (by kernel_rfl) (j:=5) rfl ?_
   refine Zar [] (fun v _=>∃ g,v=.slice (some ⟨g,0,none⟩) 1 1) ((fun _ _ _ _ _ _ h=>h)) (fun L hL hcl v u hS hd K' hK=>by
    simp only[Act.put,Zl2,Zl0,Zl1]at hK
    have hq6:L 6=false:=by
     cases hq:L 6 with
     | false=>rfl
     | true=>have:=hcl 6 5 hq (by kernel_rfl);rw[hL]at this;cases this
    go_simp
    have hS1:=hS
    rw[hq6]at hS1
    have hS2:=hS1.lit C
    rw[←hq6]at hS2
    exact hK.out (.slice (some ⟨u.heap.size,0,none⟩) 1 1) _ ⟨hS2,trivial,_,rfl⟩) (by kernel_rfl) (j:=6) rfl ?_
   refine Zar [1,3,5] (fun _ _=>False) ((fun _ _ _ _ _ _ h=>h)) (fun L hL hcl v u hS hd K' hK=>by
    simp only[Zal,Zak,eqv,Zl3,Zl4,Nat.reduceSub]at hd
    try exact hd.2.1.elim) (by kernel_rfl) (j:=7) rfl ?_
   refine Zar [4,6] (fun _ _=>False) ((fun _ _ _ _ _ _ h=>h)) (fun L hL hcl v u hS hd K' hK=>by
    simp only[Zal,Zak,eqv,Zl3,Zl4,Nat.reduceSub]at hd
    try first|exact hd.elim|exact hd.1.elim|exact hd.2.elim) (by kernel_rfl) (j:=8) rfl ?_
   refine Zar [3,7] (fun _ _=>False) ((fun _ _ _ _ _ _ h=>h)) (fun L hL hcl v u hS hd K' hK=>by
    simp only[Zal,Zak,eqv,Zl3,Zl4,Nat.reduceSub]at hd
    try first|exact hd.elim|exact hd.1.elim|exact hd.2.elim) (by kernel_rfl) (j:=9) rfl ?_
   refine Zat [] _ (fun L hL hcl v u hS hd K' hK=>by
    simp only[Act.put,Zl2,Zl0,Zl1]at hK
    go_simp
    exact hK.out _ ⟨hS.quiet _ (by decide) _,trivial⟩) (by kernel_rfl) (j:=10) rfl ?_
   refine Zar [6,9] (fun _ _=>False) ((fun _ _ _ _ _ _ h=>h)) (fun L hL hcl v u hS hd K' hK=>by
    simp only[Zal,Zak,eqv,Zl3,Zl4,Nat.reduceSub]at hd
    try first|exact hd.elim|exact hd.1.elim|exact hd.2.elim) (by kernel_rfl) (j:=11) rfl ?_
   refine Zee [6,8,10] (by decide) ?_
   rintro v u hS hR
   simp only[Zal,Zak,eqv,Zl3,Zl4,Nat.reduceSub]at hR
   try exact hR.elim
   try exact hR.1.elim
 | ok z=>
   obtain ⟨e,r2⟩:=z
   have hone:∀ (u:World),Zbg u p r1→Env w0 p u→Calls Tryz.prog 55 #[.pointer (some ⟨p,0,none⟩)] u fun e9 w'=>u.grownBy w' (some p)∧Zbg w' p r2∧∃ v,e9=.returned v∧ExV u.heap.size e w' v:=fun u a b=>hX f hf p w0 u r1 (.ok (e,r2)) a hok b hx
   have hS0:ApS w p p1 p3 B o ns l rows vn (.slice Ak l.length ck) e r1 r2 ((fun _:Nat=>false) 3) ((fun _:Nat=>false) 6) ((fun _:Nat=>false) 10) (fun _=>undef) u0.drew:=⟨hg.trans hgd,Nat.le_of_eq hB.out,hd,hbx,fun _=>kr,fun q=>(by cases q),hon,hes.keep (fun _ _ _ h=>h) (fun b hb=>⟨hb.1,by rw[hB.out];exact hb.2.1,hb.2.2⟩),fun _=>hok9,fun _=>⟨rfl,rfl,rfl,rfl⟩,fun a q=>(by cases q),fun g m c q=>(by cases q),fun g m c q=>(by cases q),fun k i q=>by cases q⟩
   refine Zap (fun L v u=>ApS w p p1 p3 B o ns l rows vn (.slice Ak l.length ck) e r1 r2 (L 3) (L 6) (L 10) v u) (fun _ _ _=>True) _ (by kernel_rfl) (by kernel_rfl) (fun v=>by simp only[Zbx,Act.put,List.toList_toArray,Zl2,Zl0,Zl1,Nat.reduceAdd,Nat.zero_add];rfl) hS0 (fun L L' v u hL h=>by rw[←hL 3 (by decide),←hL 6 (by decide),←hL 10 (by decide)];exact h) ?_
   refine Zaa [] _ (fun L hL hcl v u hS hd K' hK=>by
    simp only[Act.put,Zl2,Zl0,Zl1]at hK
    go_simp
    exact hK.out _ ⟨hS.quiet _ (by decide) _,trivial⟩) (by kernel_rfl) (j:=1) rfl ?_
   refine Zaa [0] _ (fun L hL hcl v u hS hd K' hK=>by
    simp only[Zal,Zak,eqv,Zl3,Zl4,Nat.reduceSub]at hd
    simp only[Act.put,Zl2,Zl0,Zl1]at hK
    try simp only[hd]at hK
    have hq10:L 10=false:=by
     cases hq:L 10 with
     | false=>rfl
     | true=>have:=hcl 10 1 hq (by kernel_rfl);rw[hL]at this;cases this
    have k7:=hS.row hq10
    have c5:u.cell? ⟨p3,5,none⟩=some (.slice Ak l.length ck):=k7.cell 5
    go_simp
    exact hK.out _ ⟨hS.quiet _ (by decide) _,trivial⟩) (by kernel_rfl) (j:=2) rfl ?_
   refine Zaa [] _ (fun L hL hcl v u hS hd K' hK=>by
    simp only[Act.put,Zl2,Zl0,Zl1]at hK
    have c0:u.cell? ⟨p1,0,none⟩=some (.pointer (some ⟨p,0,none⟩)):=hS.bx.cell 0
    go_simp
    exact hK.out _ ⟨hS.quiet _ (by decide) _,trivial⟩) (by kernel_rfl) (j:=3) rfl ?_
   refine Zam [2] (fun v _=>∃ a,v=.agg a) ((fun _ _ _ _ _ _ h=>h)) (fun L hL hcl v u hS hd K' hK=>by
    simp only[Zal,Zak,eqv,Zl3,Zl4,Nat.reduceSub]at hd
    simp only[Act.put,Zl2,Zl0,Zl1]at hK
    try simp only[hd]at hK
    have hq6:L 6=false:=by
     cases hq:L 6 with
     | false=>rfl
     | true=>have:=hcl 6 3 hq (by kernel_rfl);rw[hL]at this;cases this
    go_simp
    have hrd:=hS.rd
    rw[hL]at hrd
    refine (hone u hrd (hE.step hS.hg)).mono ?_
    rintro e9 u1 ⟨hg9,hd9,v9,rfl,r9,rfl,hv9,-⟩
    have hS1:=hS
    rw[hL,hq6]at hS1
    have hS2:=hS1.kid C hg9 hd9 hv9
    rw[←hq6]at hS2
    exact hK.out _ _ ⟨hS2,trivial,_,rfl⟩) (by kernel_rfl) (j:=4) rfl ?_
   refine Zaa [1] _ (fun L hL hcl v u hS hd K' hK=>by
    simp only[Zal,Zak,eqv,Zl3,Zl4,Nat.reduceSub]at hd
    simp only[Act.put,Zl2,Zl0,Zl1]at hK
    try simp only[hd]at hK
    go_simp
    exact hK.out _ ⟨hS.quiet _ (by decide) _,trivial⟩) (by kernel_rfl) (j:=5) rfl ?_
   refine Zam [] (fun v _=>∃ g,v=.slice (some ⟨g,0,none⟩) 1 1) ((fun _ _ _ _ _ _ h=>h)) (fun L hL hcl v u hS hd K' hK=>by
    simp only[Act.put,Zl2,Zl0,Zl1]at hK
    have hq6:L 6=false:=by
     cases hq:L 6 with
     | false=>rfl
     | true=>have:=hcl 6 5 hq (by kernel_rfl);rw[hL]at this;cases this
    go_simp
    have hS1:=hS
    rw[hq6]at hS1
    have hS2:=hS1.lit C
    rw[←hq6]at hS2
    exact hK.out (.slice (some ⟨u.heap.size,0,none⟩) 1 1) _ ⟨hS2,trivial,_,rfl⟩) (by kernel_rfl) (j:=6) rfl ?_
   refine Zam [1,3,5] (fun v _=>∃ g m c,v=.slice (some ⟨g,0,none⟩) m c) ((fun _ _ _ _ _ _ h=>h)) (fun L hL hcl v u hS hd K' hK=>by
    simp only[Zal,Zak,eqv,Zl3,Zl4,Nat.reduceSub]at hd
    obtain ⟨h1,-,g5,h5⟩:=hd
    have hq10:L 10=false:=by
     cases hq:L 10 with
     | false=>rfl
     | true=>have:=hcl 10 6 hq (by kernel_rfl);rw[hL]at this;cases this
    have hS1:=hS
    rw[hL,hq10]at hS1
    obtain ⟨-,-,hgB,hzb⟩:=hS.one g5 1 1 h5
    have hz:=hzb hL
    refine Zfq _ (by rfl) _ _ _ (by rfl) (p3+1) 26 j0 _ 6 96 Tryz.underlying24 hj hy0 hy1 hy2 hy3 (by omega) (.slice Ak l.length ck) l.length _ (by exact h1) (hS.own_k hL) (some ⟨g5,0,none⟩) 1 1 Zag (by exact h5) ⟨rfl,fun _=>⟨g5,0,rfl,fun j x hx=>by rw[Nat.zero_add];exact (hz.cell j).trans hx⟩⟩ Zfp (by have:=C.hl;unfold maxLen;omega) (by have:=C.hl;omega) (by have:=hS.hB;have:=C.hB;omega) ?_
    intro v' u' hown hgr hx
    have hS2:=hS1.appended C hown hgr hx
    rw[←hq10]at hS2
    obtain ⟨gx,cx,hvx⟩:=Zpo hown
    exact hK.out _ _ ⟨hS2,trivial,gx,l.length+1,cx,hvx⟩) (by kernel_rfl) (j:=7) rfl ?_
   refine Zam [4,6] (fun v _=>∃ k i,v=.pointer (some ⟨k,i,none⟩)) ((fun _ _ _ _ _ _ h=>h)) (fun L hL hcl v u hS hd K' hK=>by
    simp only[Zal,Zak,eqv,Zl3,Zl4,Nat.reduceSub]at hd
    simp only[Act.put,Zl2,Zl0,Zl1]at hK
    try simp only[hd]at hK
    obtain ⟨h4,g,m,c,h6⟩:=hd
    obtain ⟨hm,-⟩:=hS.app g m c h6
    subst hm
    have hlt:(l.length:Int) < (l.length:Int)+1:=by omega
    simp only[h4,h6]at hK ⊢
    go_simp
    exact hK.out _ _ ⟨hS.place h6,trivial,_,_,rfl⟩) (by kernel_rfl) (j:=8) rfl ?_
   refine Zam [3,7] (fun v _=>v=.bool true) ((fun _ _ _ _ _ _ h=>h)) (fun L hL hcl v u hS hd K' hK=>by
    simp only[Zal,Zak,eqv,Zl3,Zl4,Nat.reduceSub]at hd
    obtain ⟨⟨a,h3⟩,k,i,h7⟩:=hd
    obtain ⟨hi,m,c,h6⟩:=hS.idx k i h7
    subst hi
    have h6t:L 6=true:=by
     cases hq:L 6 with
     | true=>rfl
     | false=>have:=(hS.pre hq).1;rw[h6]at this;cases this
    obtain ⟨re,ha,htr⟩:=hS.tree a h3
    rw[ha]at h3
    have hlen:=Zby htr
    obtain ⟨hm,last,hl6,hown,hgb,-⟩:=hS.app k m c h6
    subst hm
    rw[h6]at hown
    obtain ⟨u',q1,q2,q3⟩:=Zue Tryz.prog hown hrows hlen (Zcy htr) kE
    have hS1:=hS
    rw[h6t]at hS1
    have hS2:ApS w p p1 p3 B o ns l rows vn (.slice Ak l.length ck) e r1 r2 (L 3) (L 6) (L 10) (Zcq v 8 (.bool true)) u':=by rw[h6t];exact hS1.stored C h6 h3 hlen (by rw[h6];exact q2) q3
    refine Zbe rfl ?_
    refine Zgm 26 _ _ rfl _ _ h7 h3 q1 ?_
    exact hK.out (.bool true) _ ⟨hS2,trivial,rfl⟩) (by kernel_rfl) (j:=9) rfl ?_
   refine Zaa [] _ (fun L hL hcl v u hS hd K' hK=>by
    simp only[Act.put,Zl2,Zl0,Zl1]at hK
    go_simp
    exact hK.out _ ⟨hS.quiet _ (by decide) _,trivial⟩) (by kernel_rfl) (j:=10) rfl ?_
   refine Zam [6,9] (fun v _=>v=.bool true) ((fun _ _ _ _ _ _ h=>h)) (fun L hL hcl v u hS hd K' hK=>by
    simp only[Zal,Zak,eqv,Zl3,Zl4,Nat.reduceSub]at hd
    obtain ⟨⟨g,m,c,h6⟩,h9⟩:=hd
    have h6t:L 6=true:=by
     cases hq:L 6 with
     | true=>rfl
     | false=>have:=(hS.pre hq).1;rw[h6]at this;cases this
    have k7:=hS.row hL
    have f5:=k7.free 5
    have c5:u.cell? ⟨p3,5,none⟩=some (.slice Ak l.length ck):=k7.cell 5
    have hS1:=hS
    rw[h6t]at hS1
    have hS2:ApS w p p1 p3 B o ns l rows vn (.slice Ak l.length ck) e r1 r2 (L 3) (L 6) true (Zcq v 10 (.bool true)) (u.setCell ⟨p3,5,none⟩ (v 6)):=by rw[h6t];exact hS1.laid C k7 h6
    refine Zbe rfl ?_
    refine Zgm 24 _ _ rfl _ _ h9 (rfl:_=v 6) (u':=u.setCell ⟨p3,5,none⟩ (v 6)) (by rw[h6];exact Zoy 24 (by kernel_rfl) c5 f5 rfl) ?_
    exact hK.out (.bool true) _ ⟨hS2,trivial,rfl⟩) (by kernel_rfl) (j:=11) rfl ?_
   refine Zau [6,8,10] (by decide) ?_
   rintro v u hS hR
   simp only[Zal,Zak,eqv,Zl3,Zl4,Nat.reduceSub]at hR
   obtain ⟨h6,h8,h10⟩:=hR
   obtain ⟨z1,z2,z3,z4⟩:=hS.done C h6 h8 h10
   clear hS hS0 hone
   refine bodyPost_ret (v:=.tuple #[]) (by simp[results,Tryz.results208,go_sem]) rfl ?_
   exact ⟨z1,rfl,z2,z3,z4⟩
end Go.Proofs.YtnhooehmcggmdaaGreatDoor
