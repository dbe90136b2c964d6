/- Parts of a proof about the given program: XRanks2. -/
import Derived.Test.YtnhooehmcggmdaaGreatDoorZ36
import Derived.Test.YtnhooehmcggmdaaGreatDoorZ18
namespace Go.Proofs.YtnhooehmcggmdaaGreatDoor
set_option maxHeartbeats 16000000
set_option linter.unusedVariables false
set_option linter.unusedSimpArgs false
set_option linter.unusedSectionVars false
open Go.RowKit
def Zpj:List (List UInt8):=[[124,124],[38,38],[61,61],[60],[105,110],[43],[45],[42]]
def rkOps:List Nat:=[16,15,17,19,23,24,25,26]
def Zuq:List Nat:=[0,1,2,2,2,3,3,4]
def Zwt (i:Nat):List UInt8:=Zpj.getD i []
def opA (i:Nat):Nat:=rkOps.getD i 0
def rnkA (i:Nat):Nat:=Zuq.getD i 0
def Zpi (i k:Nat):List UInt8:=[49,32] ++ Zwt i ++ [32,50,32] ++ Zwt k ++ [32,51]
def lgE (n:Int):Et:=.mk 2 n noS noS [] []
def rkE (i k:Nat):Et:=if rnkA k≤rnkA i then .mk (opA k) 0 noS noS [] [.mk (opA i) 0 noS noS [] [lgE 1,lgE 2],lgE 3] else .mk (opA i) 0 noS noS [] [lgE 1,.mk (opA k) 0 noS noS [] [lgE 2,lgE 3]]
def rkR (i k:Nat):Option Et × Int × Nat:=if rnkA i=2∧rnkA k=2 then (none,5,5+(Zwt i).length) else (some (rkE i k),0,0)
theorem ranks_0:∀ k:Fin 8,Zcp (Zpi 0 k.val)=rkR 0 k.val
 | ⟨0,_⟩=>by kernel_rfl
 | ⟨1,_⟩=>by kernel_rfl
 | ⟨2,_⟩=>by kernel_rfl
 | ⟨3,_⟩=>by kernel_rfl
 | ⟨4,_⟩=>by kernel_rfl
 | ⟨5,_⟩=>by kernel_rfl
 | ⟨6,_⟩=>by kernel_rfl
 | ⟨7,_⟩=>by kernel_rfl
theorem ranks_1:∀ k:Fin 8,Zcp (Zpi 1 k.val)=rkR 1 k.val
 | ⟨0,_⟩=>by kernel_rfl
 | ⟨1,_⟩=>by kernel_rfl
 | ⟨2,_⟩=>by kernel_rfl
 | ⟨3,_⟩=>by kernel_rfl
 | ⟨4,_⟩=>by kernel_rfl
 | ⟨5,_⟩=>by kernel_rfl
 | ⟨6,_⟩=>by kernel_rfl
 | ⟨7,_⟩=>by kernel_rfl
theorem ranks_2:∀ k:Fin 8,Zcp (Zpi 2 k.val)=rkR 2 k.val
 | ⟨0,_⟩=>by kernel_rfl
 | ⟨1,_⟩=>by kernel_rfl
 | ⟨2,_⟩=>by kernel_rfl
 | ⟨3,_⟩=>by kernel_rfl
 | ⟨4,_⟩=>by kernel_rfl
 | ⟨5,_⟩=>by kernel_rfl
 | ⟨6,_⟩=>by kernel_rfl
 | ⟨7,_⟩=>by kernel_rfl
theorem ranks_3:∀ k:Fin 8,Zcp (Zpi 3 k.val)=rkR 3 k.val
 | ⟨0,_⟩=>by kernel_rfl
 | ⟨1,_⟩=>by kernel_rfl
 | ⟨2,_⟩=>by kernel_rfl
 | ⟨3,_⟩=>by kernel_rfl
 | ⟨4,_⟩=>by kernel_rfl
 | ⟨5,_⟩=>by kernel_rfl
 | ⟨6,_⟩=>by kernel_rfl
 | ⟨7,_⟩=>by kernel_rfl
theorem ranks_4:∀ k:Fin 8,Zcp (Zpi 4 k.val)=rkR 4 k.val
 | ⟨0,_⟩=>by kernel_rfl
 | ⟨1,_⟩=>by kernel_rfl
 | ⟨2,_⟩=>by kernel_rfl
 | ⟨3,_⟩=>by kernel_rfl
 | ⟨4,_⟩=>by kernel_rfl
 | ⟨5,_⟩=>by kernel_rfl
 | ⟨6,_⟩=>by kernel_rfl
 | ⟨7,_⟩=>by kernel_rfl
theorem ranks_5:∀ k:Fin 8,Zcp (Zpi 5 k.val)=rkR 5 k.val
 | ⟨0,_⟩=>by kernel_rfl
 | ⟨1,_⟩=>by kernel_rfl
 | ⟨2,_⟩=>by kernel_rfl
 | ⟨3,_⟩=>by kernel_rfl
 | ⟨4,_⟩=>by kernel_rfl
 | ⟨5,_⟩=>by kernel_rfl
 | ⟨6,_⟩=>by kernel_rfl
 | ⟨7,_⟩=>by kernel_rfl
theorem ranks_6:∀ k:Fin 8,Zcp (Zpi 6 k.val)=rkR 6 k.val
 | ⟨0,_⟩=>by kernel_rfl
 | ⟨1,_⟩=>by kernel_rfl
 | ⟨2,_⟩=>by kernel_rfl
 | ⟨3,_⟩=>by kernel_rfl
 | ⟨4,_⟩=>by kernel_rfl
 | ⟨5,_⟩=>by kernel_rfl
 | ⟨6,_⟩=>by kernel_rfl
 | ⟨7,_⟩=>by kernel_rfl
theorem ranks_7:∀ k:Fin 8,Zcp (Zpi 7 k.val)=rkR 7 k.val
 | ⟨0,_⟩=>by kernel_rfl
 | ⟨1,_⟩=>by kernel_rfl
 | ⟨2,_⟩=>by kernel_rfl
 | ⟨3,_⟩=>by kernel_rfl
 | ⟨4,_⟩=>by kernel_rfl
 | ⟨5,_⟩=>by kernel_rfl
 | ⟨6,_⟩=>by kernel_rfl
 | ⟨7,_⟩=>by kernel_rfl
theorem ranks_all (i k:Nat) (hi:i < 8) (hk:k < 8):Zcp (Zpi i k)=rkR i k:=by
 have h:∀ j:Fin 8,∀ m:Fin 8,Zcp (Zpi j.val m.val)=rkR j.val m.val
  | ⟨0,_⟩=>ranks_0
  | ⟨1,_⟩=>ranks_1
  | ⟨2,_⟩=>ranks_2
  | ⟨3,_⟩=>ranks_3
  | ⟨4,_⟩=>ranks_4
  | ⟨5,_⟩=>ranks_5
  | ⟨6,_⟩=>ranks_6
  | ⟨7,_⟩=>ranks_7
 exact h ⟨i,hi⟩ ⟨k,hk⟩
theorem Zzo (i:Nat) (h:i < 8):(Zwt i).length≤2∧rnkA i≤4∧opA i < 256∧(Zpj.map fun x=>Value.string (str x))[i]?=some (.string (str (Zwt i)))∧(rkOps.map fun x:Nat=>Value.int .u8 (x:Int))[i]?=some (.int .u8 (opA i:Int))∧(Zuq.map fun x:Nat=>Value.int .i64 (x:Int))[i]?=some (.int .i64 (rnkA i:Int)):=by
 match i,h with
 | 0,_=>exact ⟨by decide,by decide,by decide,rfl,rfl,rfl⟩
 | 1,_=>exact ⟨by decide,by decide,by decide,rfl,rfl,rfl⟩
 | 2,_=>exact ⟨by decide,by decide,by decide,rfl,rfl,rfl⟩
 | 3,_=>exact ⟨by decide,by decide,by decide,rfl,rfl,rfl⟩
 | 4,_=>exact ⟨by decide,by decide,by decide,rfl,rfl,rfl⟩
 | 5,_=>exact ⟨by decide,by decide,by decide,rfl,rfl,rfl⟩
 | 6,_=>exact ⟨by decide,by decide,by decide,rfl,rfl,rfl⟩
 | 7,_=>exact ⟨by decide,by decide,by decide,rfl,rfl,rfl⟩
 | i+8,h=>omega
theorem resE_six {base:Nat} {x:Option Et} {w:World} {r:List Value} (h:ResE base x w (.agg r.toArray)):∃ (o:Nat) (n:Int) (s t:ByteArray) (A:Option Addr) (a c:Nat) (B:Option Addr) (b d:Nat),r=Zav o n s t (.slice A a c) (.slice B b d):=by
 obtain ⟨r',e,-,-,h2,h3⟩:=Zdm h
 obtain rfl:r=r':=by
  have e1:r.toArray=r'.toArray:=by injection e
  simpa using congrArg Array.toList e1
 cases x with
 | none=>exact ⟨0,0,⟨#[]⟩,⟨#[]⟩,none,0,0,none,0,0,h3 rfl⟩
 | some e=>exact Zcf (h2 e rfl).1
theorem kids2 {w:World} {P:Nat→Prop} {o:Nat} {n:Int} {s t:ByteArray} {x y:Et} {r:List Value} (h:EAt w P (.mk o n s t [] [x,y]) r):∃ (A:Option Addr) (c yb yo d:Nat) (q0 q1:List Value),r=Zav o n s t (.slice A 0 c) (.slice (some ⟨yb,yo,none⟩) 2 d)∧EAt w P x q0∧EAt w P y q1∧(∀ j v,q0[j]?=some v→w.cell? ⟨yb,yo+j,none⟩=some v)∧∀ j v,q1[j]?=some v→w.cell? ⟨yb,yo+6+j,none⟩=some v:=by
 rw[EAt]at h
 obtain ⟨A,c,B,d,rows,rfl,-,-,-,-,-,hL,hE⟩:=h
 have h6:=Zbl hE
 rw[Zdz]at hE
 obtain ⟨q0,rs,rfl,h0,hE⟩:=hE
 rw[Zdz]at hE
 obtain ⟨q1,rs,rfl,h1,hE⟩:=hE
 rw[Zdz]at hE
 subst hE
 have hl0:=Zby h0
 obtain ⟨yb,yo,rfl,-⟩:=hL.2 (by intro h9;have:=congrArg List.length h9;simp[hl0]at this)
 refine ⟨A,c,yb,yo,d,q0,q1,rfl,h0,h1,fun j v hj=>?_,fun j v hj=>?_⟩
 · have:=Zdt hL h6 (i:=0) rfl j v hj
   rw[Nat.zero_mul,Nat.add_zero]at this
   exact this
 · exact Zdt hL h6 (i:=1) rfl j v hj
theorem mk_row {w:World} {P:Nat→Prop} {o:Nat} {n:Int} {s t:ByteArray} {ns:List ByteArray} {l:List Et} {r:List Value} (h:EAt w P (.mk o n s t ns l) r):r[0]?=some (.int .u8 (o:Int))∧r[1]?=some (.int .i64 n):=by
 rw[EAt]at h
 obtain ⟨A,c,B,d,rows,rfl,-⟩:=h
 exact ⟨rfl,rfl⟩
theorem cellR {w w':World} {a:Addr} {v:Value} (h:w.cell? a=some v) (hb:Below w.heap.size w w'):w'.cell? a=some v:=by
 rw[hb.cell (World.block_lt_of_cell? w a h)]
 exact h
theorem Zdp {v:Nat→Value} {k j:Nat} (x:Value) (h:j ≠ k):Zcq v k x j=v j:=if_neg h
theorem Zrx (v:Nat→Value) (k:Nat) (x:Value):Zcq v k x k=x:=if_pos rfl
structure RkS (W3:World) (X:Option Et) (b c:Int) (l12 l13 l14 l17 l18:Bool) (v:Nat→Value) (u:World):Prop where
 hb:Below W3.heap.size W3 u
 p12:l12=false→v 12=undef
 p13:l13=false→v 13=undef
 p14:l14=false→v 14=undef
 p17:l17=false→v 17=undef
 tree:l12=true→∃ r:List Value,v 12=.tuple #[.agg r.toArray,.int .i64 b,.int .i64 c]∧r.length=6∧(∀ x ∈ r,x.oneCell'=true)∧∀ e,X=some e→EAt u (fun k=>k < u.heap.size∧v 17 ≠ .pointer (some ⟨k,0,none⟩)) e r
 mv:l13=true→v 13=v 12
 ag:l14=true→∃ r:List Value,v 12=.tuple #[.agg r.toArray,.int .i64 b,.int .i64 c]∧v 14=.agg r.toArray
 bx:l17=true→∃ p,v 17=.pointer (some ⟨p,0,none⟩)∧W3.heap.size≤p∧∃ z,Blk u p z 26∧(l18=false→z=Zag)∧(l18=true→∀ r:List Value,v 12=.tuple #[.agg r.toArray,.int .i64 b,.int .i64 c]→z=r)
section
variable {W3:World} {X:Option Et} {b c:Int} {l12 l13 l14 l17 l18:Bool} {v:Nat→Value} {u:World}
theorem RkS.start (W3:World) (X:Option Et) (b c:Int):RkS W3 X b c false false false false false (fun _=>undef) W3.drew:=
 ⟨(Below.refl _ _).drew,fun _=>rfl,fun _=>rfl,fun _=>rfl,fun _=>rfl,fun h=>(by cases h),fun h=>(by cases h),fun h=>(by cases h),fun h=>by cases h⟩
theorem RkS.quiet (h:RkS W3 X b c l12 l13 l14 l17 l18 v u) (k:Nat) (hk:k ≠ 12∧k ≠ 13∧k ≠ 14∧k ≠ 17) (x:Value):RkS W3 X b c l12 l13 l14 l17 l18 (Zcq v k x) u:=by
 have e12:Zcq v k x 12=v 12:=Zdp x (by omega)
 have e13:Zcq v k x 13=v 13:=Zdp x (by omega)
 have e14:Zcq v k x 14=v 14:=Zdp x (by omega)
 have e17:Zcq v k x 17=v 17:=Zdp x (by omega)
 exact ⟨h.hb,by rw[e12];exact h.p12,by rw[e13];exact h.p13,by rw[e14];exact h.p14,by rw[e17];exact h.p17,by rw[e12,e17];exact h.tree,by rw[e12,e13];exact h.mv,by rw[e12,e14];exact h.ag,by rw[e12,e17];exact h.bx⟩
theorem RkS.call {u1:World} {r:List Value} (h:RkS W3 X b c false false false l17 false v u) (hP:Below u.heap.size u u1) (h6:r.length=6) (h1:∀ x ∈ r,x.oneCell'=true) (hex:∀ e,X=some e→EAt u1 (Nw u.heap.size u1) e r):RkS W3 X b c true false false l17 false (Zcq v 12 (.tuple #[.agg r.toArray,.int .i64 b,.int .i64 c])) u1:=by
 have e12:=Zrx v 12 (.tuple #[.agg r.toArray,.int .i64 b,.int .i64 c])
 have e13:Zcq v 12 (.tuple #[.agg r.toArray,.int .i64 b,.int .i64 c]) 13=v 13:=Zdp _ (by omega)
 have e14:Zcq v 12 (.tuple #[.agg r.toArray,.int .i64 b,.int .i64 c]) 14=v 14:=Zdp _ (by omega)
 have e17:Zcq v 12 (.tuple #[.agg r.toArray,.int .i64 b,.int .i64 c]) 17=v 17:=Zdp _ (by omega)
 refine ⟨bt h.hb hP,fun h=>(by cases h),by rw[e13];exact h.p13,by rw[e14];exact h.p14,by rw[e17];exact h.p17,fun _=>⟨r,e12,h6,h1,fun e he=>(hex e he).imp fun k hk=>⟨hk.2,?_⟩⟩,fun h=>(by cases h),fun h=>(by cases h),fun hl=>?_⟩
 · rw[e17]
   intro hv
   cases hl:l17 with
   | false=>have:=h.p17 hl;rw[hv]at this;cases this
   | true=>
     obtain ⟨p,hp,-,z,kz,-⟩:=h.bx hl
     rw[hv]at hp
     cases hp
     have:=kz.lt
     have:=hk.1
     omega
 · obtain ⟨p,hp,h2,z,kz,hz,-⟩:=h.bx hl
   exact ⟨p,by rw[e17];exact hp,h2,z,kz.below hP,hz,fun h=>by cases h⟩
theorem RkS.moved {a:Array Value} (h:RkS W3 X b c l12 false l14 l17 l18 v u) (h12:v 12=.tuple #[.agg a,.int .i64 b,.int .i64 c]):RkS W3 X b c l12 true l14 l17 l18 (Zcq v 13 (.tuple #[.agg a,.int .i64 b,.int .i64 c])) u:=by
 have e12:Zcq v 13 (.tuple #[.agg a,.int .i64 b,.int .i64 c]) 12=v 12:=Zdp _ (by omega)
 have e13:=Zrx v 13 (.tuple #[.agg a,.int .i64 b,.int .i64 c])
 have e14:Zcq v 13 (.tuple #[.agg a,.int .i64 b,.int .i64 c]) 14=v 14:=Zdp _ (by omega)
 have e17:Zcq v 13 (.tuple #[.agg a,.int .i64 b,.int .i64 c]) 17=v 17:=Zdp _ (by omega)
 exact ⟨h.hb,by rw[e12];exact h.p12,fun h=>(by cases h),by rw[e14];exact h.p14,by rw[e17];exact h.p17,by rw[e12,e17];exact h.tree,fun _=>by rw[e12,e13,h12],by rw[e12,e14];exact h.ag,by rw[e12,e17];exact h.bx⟩
theorem RkS.taken {a:Array Value} (h:RkS W3 X b c l12 l13 false l17 l18 v u) (h13:v 13=.tuple #[.agg a,.int .i64 b,.int .i64 c]):RkS W3 X b c l12 l13 true l17 l18 (Zcq v 14 (.agg a)) u:=by
 have e12:Zcq v 14 (.agg a) 12=v 12:=Zdp _ (by omega)
 have e13:Zcq v 14 (.agg a) 13=v 13:=Zdp _ (by omega)
 have e14:=Zrx v 14 (.agg a)
 have e17:Zcq v 14 (.agg a) 17=v 17:=Zdp _ (by omega)
 have h13t:l13=true:=by
  cases hq:l13 with
  | true=>rfl
  | false=>have:=h.p13 hq;rw[h13]at this;cases this
 have h12:v 12=.tuple #[.agg a,.int .i64 b,.int .i64 c]:=by rw[←h.mv h13t,h13]
 have h12t:l12=true:=by
  cases hq:l12 with
  | true=>rfl
  | false=>have:=h.p12 hq;rw[h12]at this;cases this
 obtain ⟨r,hr,-⟩:=h.tree h12t
 have ea:a=r.toArray:=by
  rw[h12]at hr
  injection hr with hr
  have:=congrArg (fun x=>x.toList) hr
  simp at this
  exact this
 exact ⟨h.hb,by rw[e12];exact h.p12,by rw[e13];exact h.p13,fun h=>(by cases h),by rw[e17];exact h.p17,by rw[e12,e17];exact h.tree,by rw[e12,e13];exact h.mv,fun _=>⟨r,by rw[e12];exact hr,by rw[e14,ea]⟩,by rw[e12,e17];exact h.bx⟩
theorem RkS.made (h:RkS W3 X b c l12 l13 l14 false false v u):RkS W3 X b c l12 l13 l14 true false (Zcq v 17 (.pointer (some ⟨u.heap.size,0,none⟩))) (u.alloc (.cells Zag.toArray 26)):=by
 have e12:Zcq v 17 (.pointer (some ⟨u.heap.size,0,none⟩)) 12=v 12:=Zdp _ (by omega)
 have e13:Zcq v 17 (.pointer (some ⟨u.heap.size,0,none⟩)) 13=v 13:=Zdp _ (by omega)
 have e14:Zcq v 17 (.pointer (some ⟨u.heap.size,0,none⟩)) 14=v 14:=Zdp _ (by omega)
 have e17:=Zrx v 17 (.pointer (some ⟨u.heap.size,0,none⟩))
 have hb9:=Zac u (.cells Zag.toArray 26)
 have hs9:(u.alloc (.cells Zag.toArray 26)).heap.size=u.heap.size+1:=Array.size_push _
 refine ⟨bt h.hb hb9,by rw[e12];exact h.p12,by rw[e13];exact h.p13,by rw[e14];exact h.p14,fun h=>(by cases h),fun hl=>?_,by rw[e12,e13];exact h.mv,by rw[e12,e14];exact h.ag,fun _=>⟨u.heap.size,e17,h.hb.size,Zag,Blk.new u Zag 26,fun _=>rfl,fun h=>by cases h⟩⟩
 obtain ⟨r,h2,h6,h1,hex⟩:=h.tree hl
 refine ⟨r,by rw[e12];exact h2,h6,h1,fun e he=>((hex e he).below hb9).imp fun k hk=>⟨by rw[hs9];have:=hk.1;omega,?_⟩⟩
 rw[e17]
 intro hq
 have h3:=hk.1
 injection hq with hq
 injection hq with hq
 injection hq with hq
 omega
theorem RkS.stored {a:Array Value} {p:Nat} (h:RkS W3 X b c l12 l13 l14 l17 false v u) (h14:v 14=.agg a) (h17:v 17=.pointer (some ⟨p,0,none⟩)):∃ r:List Value,a=r.toArray∧r.length=6∧(∀ x ∈ r,x.oneCell'=true)∧Blk u p Zag 26∧RkS W3 X b c l12 l13 l14 l17 true (Zcq v 18 undef) (u.setRow p r.toArray):=by
 have h14t:l14=true:=by
  cases hq:l14 with
  | true=>rfl
  | false=>have:=h.p14 hq;rw[h14]at this;cases this
 have h17t:l17=true:=by
  cases hq:l17 with
  | true=>rfl
  | false=>have:=h.p17 hq;rw[h17]at this;cases this
 obtain ⟨r,h12,h14'⟩:=h.ag h14t
 have ea:a=r.toArray:=by rw[h14]at h14';injection h14'
 have h12t:l12=true:=by
  cases hq:l12 with
  | true=>rfl
  | false=>have:=h.p12 hq;rw[h12]at this;cases this
 have same:∀ q:List Value,v 12=.tuple #[.agg q.toArray,.int .i64 b,.int .i64 c]→r=q:=fun q hq=>by
  rw[h12]at hq
  injection hq with hq
  have:=congrArg (fun x=>x.toList) hq
  simpa using this
 obtain ⟨q,hq,h6,h1,hex⟩:=h.tree h12t
 obtain rfl:=same q hq
 obtain ⟨p',hp,h2,z,kz,hz,-⟩:=h.bx h17t
 rw[h17]at hp
 cases hp
 obtain rfl:=hz rfl
 have e12:Zcq v 18 undef 12=v 12:=Zdp _ (by omega)
 have e13:Zcq v 18 undef 13=v 13:=Zdp _ (by omega)
 have e14:Zcq v 18 undef 14=v 14:=Zdp _ (by omega)
 have e17:Zcq v 18 undef 17=v 17:=Zdp _ (by omega)
 have hsz:(u.setRow p r.toArray).heap.size=u.heap.size:=by simp[World.setRow]
 refine ⟨r,ea,h6,h1,kz,Zah h.hb h2 _,by rw[e12];exact h.p12,by rw[e13];exact h.p13,by rw[e14];exact h.p14,by rw[e17];exact h.p17,fun _=>⟨r,by rw[e12];exact h12,h6,h1,fun e he=>(hex e he).keep (fun q w hq hc=>?_) fun k hk=>⟨by rw[hsz];exact hk.1,by rw[e17];exact hk.2⟩⟩,by rw[e12,e13];exact h.mv,by rw[e12,e14];exact h.ag,fun _=>⟨p,by rw[e17];exact h17,h2,r,kz.vrow r,fun h=>(by cases h),fun _ q hq=>same q (by rw[e12]at hq;exact hq)⟩⟩
 unfold World.cell? at hc ⊢
 rw[Zch u p q.block _ (fun e=>hq.2 (by rw[h17,e]))]
 exact hc
theorem RkS.done (h:RkS W3 X b c true true true true true v u):∃ p r,v 17=.pointer (some ⟨p,0,none⟩)∧Blk u p r 26∧(∀ e,X=some e→EAt u (fun _=>True) e r)∧Below W3.heap.size W3 u:=by
 obtain ⟨r,h12,h6,h1,hex⟩:=h.tree rfl
 obtain ⟨p,hp,-,z,kz,-,hz⟩:=h.bx rfl
 obtain rfl:=hz rfl r h12
 exact ⟨p,z,hp,kz,fun e he=>(hex e he).imp fun _ _=>trivial,h.hb⟩
end
set_option maxRecDepth 100000 in
theorem Zyf (hC:Zhx) (a b:Nat) (w:World) (ha:a < 256) (hb:b < 256) (htab:Tb8 w):Calls Tryz.prog 6 #[.int .u8 (a:Int),.int .u8 (b:Int)] w fun e w'=>e=.returned (.bool true)∧Below w.heap.size w w':=by
 have hli:=Zpr hC w htab
 have hva:(0:Int)≤(a:Int):=by omega
 have hvb:(0:Int)≤(b:Int):=by omega
 go_enter Tryz.func6,Tryz.ntmps6
 go_upto_region 1 with (first|(at_builtin;fail))
 go_wp2_with (first|(at_builtin;fail))
 refine hli.mono ?_
 clear hli
 rintro e w1 ⟨rfl,hb1⟩
 obtain ⟨i,hi⟩:∃ i,i=a % 8:=⟨_,rfl⟩
 obtain ⟨k,hk⟩:∃ k,k=b % 8:=⟨_,rfl⟩
 have hi8:i < 8:=by omega
 have hk8:k < 8:=by omega
 obtain ⟨li,ri,oi,fsi,foi,fri⟩:=Zzo i hi8
 obtain ⟨lk,rk,ok,fsk,fok,frk⟩:=Zzo k hk8
 have hia:(a:Int) % 8=(i:Int):=by omega
 have hkb:(b:Int) % 8=(k:Int):=by omega
 have ks:=Blk.new w1 (Zpj.map fun x=>Value.string (str x)) 9
 have hbs:=Zac w1 (.cells (Zpj.map fun x=>Value.string (str x)).toArray 9)
 obtain ⟨W1,hW1⟩:=Zaf (w1.alloc (.cells (Zpj.map fun x=>Value.string (str x)).toArray 9))
 have hW1l:Hid (W1=w1.alloc (.cells #[.string ⟨#[124,124]⟩,.string ⟨#[38,38]⟩,.string ⟨#[61,61]⟩,.string ⟨#[60]⟩,.string ⟨#[105,110]⟩,.string ⟨#[43]⟩,.string ⟨#[45]⟩,.string ⟨#[42]⟩] 9)):=hW1
 rw[←hW1.out]at ks hbs
 have s1:W1.heap.size=w1.heap.size+1:=by rw[hW1.out];exact Array.size_push ..
 have ko:=Blk.new W1 (rkOps.map fun x:Nat=>Value.int .u8 (x:Int)) 22
 have hbo:=Zac W1 (.cells (rkOps.map fun x:Nat=>Value.int .u8 (x:Int)).toArray 22)
 obtain ⟨W2,hW2⟩:=Zaf (W1.alloc (.cells (rkOps.map fun x:Nat=>Value.int .u8 (x:Int)).toArray 22))
 have hW2l:Hid (W2=W1.alloc (.cells #[.int .u8 16,.int .u8 15,.int .u8 17,.int .u8 19,.int .u8 23,.int .u8 24,.int .u8 25,.int .u8 26] 22)):=hW2
 rw[←hW2.out]at ko hbo
 have s2:W2.heap.size=w1.heap.size+1+1:=by rw[hW2.out,←s1];exact Array.size_push ..
 have kr:=Blk.new W2 (Zuq.map fun x:Nat=>Value.int .i64 (x:Int)) 3
 have hbr:=Zac W2 (.cells (Zuq.map fun x:Nat=>Value.int .i64 (x:Int)).toArray 3)
 obtain ⟨W3,hW3⟩:=Zaf (W2.alloc (.cells (Zuq.map fun x:Nat=>Value.int .i64 (x:Int)).toArray 3))
 have hW3l:Hid (W3=W2.alloc (.cells #[.int .i64 0,.int .i64 1,.int .i64 2,.int .i64 2,.int .i64 2,.int .i64 3,.int .i64 3,.int .i64 4] 3)):=hW3
 rw[←hW3.out]at kr hbr
 rw[s1]at ko
 rw[s2]at kr
 have ks3:=(ks.below hbo).below hbr
 have ko3:=ko.below hbr
 have hb3:Below w.heap.size w W3:=bt (bt (bt hb1 hbs) hbo) hbr
 obtain ⟨g,hg⟩:=Zaf w1.heap.size
 rw[←hg.out]at ks3 ko3 kr
 clear ks ko hbs hbo hbr hW1 hW2 hW3
 go_upto_region 7 with (first|(at_builtin;fail))
 rw[←hW1l.out,←hW2l.out,←hW3l.out,hia,hkb,←hg.out]
 clear hW1l hW2l hW3l hia hkb hg s1 s2 hi hk hva hvb ha hb hb1
 have hva:(0:Int)≤(i:Int):=by omega
 have hvb:(0:Int)≤(k:Int):=by omega
 have hvc:(i:Int) < 8:=by omega
 have hvd:(k:Int) < 8:=by omega
 have xs:W3.cell? ⟨g,i,none⟩=some (.string (str (Zwt i))):=(ks3.cell i).trans fsi
 have xt:W3.cell? ⟨g,k,none⟩=some (.string (str (Zwt k))):=(ks3.cell k).trans fsk
 obtain ⟨X1,hX1⟩:=Zaf (str ([49,32] ++ Zwt i))
 obtain ⟨X2,hX2⟩:=Zaf (str ([49,32] ++ Zwt i ++ [32,50,32]))
 obtain ⟨X3,hX3⟩:=Zaf (str ([49,32] ++ Zwt i ++ [32,50,32] ++ Zwt k))
 obtain ⟨X4,hX4⟩:=Zaf (str ([49,32] ++ Zwt i ++ [32,50,32] ++ Zwt k ++ [32,51]))
 have a1:=Zhw (a:=[49,32]) (c:=Zwt i) (S:=⟨#[49,32]⟩) rfl rfl hX1.out (by simp only[List.length_cons,List.length_nil];omega)
 have a2:=Zhw (c:=[32,50,32]) (T:=⟨#[32,50,32]⟩) hX1.out rfl hX2.out (by simp only[List.length_append,List.length_cons,List.length_nil];omega)
 have a3:=Zhw hX2.out rfl hX3.out (by simp only[List.length_append,List.length_cons,List.length_nil];omega)
 have a4:=Zhw (c:=[32,51]) (T:=⟨#[32,51]⟩) hX3.out rfl hX4.out (by simp only[List.length_append,List.length_cons,List.length_nil];omega)
 have hgl:=ks3.lt
 have hgl1:=ko3.lt
 have hgl2:=kr.lt
 have hgn:¬ g=W3.heap.size:=by omega
 have hgn2:g ≠ W3.heap.size:=hgn
 have xs2:(W3.alloc (.cells Zag.toArray 26)).cell? ⟨g,i,none⟩=some (.string (str (Zwt i))):=((ks3.alloc _).cell i).trans fsi
 have xt2:(W3.alloc (.cells Zag.toArray 26)).cell? ⟨g,k,none⟩=some (.string (str (Zwt k))):=((ks3.alloc _).cell k).trans fsk
 obtain ⟨X,hX⟩:=Zaf (rkR i k)
 have hpar:∀ W,Below W3.heap.size W3 W→Calls Tryz.prog 15 #[.string X4] W (ParseEnd W X):=by
  intro W hbW
  have h:=Zgy hC X4 W (by rw[hX4.out,Zbo];simp only[List.length_append,List.length_cons,List.length_nil];omega) (htab.below (bt hb3 hbW))
  have e:X4.data.toList=Zpi i k:=by rw[hX4.out];rfl
  rw[e,ranks_all i k hi8 hk8,←hX.out]at h
  exact h
 obtain ⟨X1a,X1b,X1c⟩:=X
 go_cut [10,11,12,24,25,26,27,28,29,30,31,32,33,34,35,36,37,38,39,40] (fun u10 u11 _ _ _ _ _ _ _ _ _ _ _ _ _ _ _ _ _ _ wx=>∃ p r,u10=.pointer (some ⟨p,0,none⟩)∧u11=.int .i64 X1b∧Blk wx p r 26∧(∀ e,X1a=some e→EAt wx (fun _=>True) e r)∧Below W3.heap.size W3 wx)
 case first=>
  clear xs2 xt2
  refine Zap (fun L v u=>RkS W3 X1a X1b (X1c:Int) (L 12) (L 13) (L 14) (L 17) (L 18) v u) (fun _ _ _=>True) _ (by kernel_rfl) (by kernel_rfl) (fun v=>by simp only[Zbx,Act.put,List.toList_toArray,Zl2,Zl0,Zl1,Nat.reduceAdd,Nat.zero_add];rfl) (RkS.start W3 X1a X1b (X1c:Int)) (fun L L' v u hL h=>by rw[←hL 12 (by decide),←hL 13 (by decide),←hL 14 (by decide),←hL 17 (by decide),←hL 18 (by decide)];exact h) ?_
  refine Zaa [] _ (fun L hL hcl v u hS hd K' hK=>by
   simp only[Act.put,Zl2,Zl0,Zl1]at hK
   go_simp
   exact hK.out _ ⟨hS.quiet _ (by decide) _,trivial⟩) (by kernel_rfl) (j:=1) rfl ?_
  refine Zaa [] _ (fun L hL hcl v u hS hd K' hK=>by
   simp only[Act.put,Zl2,Zl0,Zl1]at hK
   go_simp
   exact hK.out _ ⟨hS.quiet _ (by decide) _,trivial⟩) (by kernel_rfl) (j:=2) rfl ?_
  refine Zaa [0,1] _ (fun L hL hcl v u hS hd K' hK=>by
   simp only[Zal,Zak,eqv,Zl3,Zl4,Nat.reduceSub]at hd
   simp only[Act.put,Zl2,Zl0,Zl1]at hK
   try simp only[hd]at hK
   go_simp
   exact hK.out _ ⟨hS.quiet _ (by decide) _,trivial⟩) (by kernel_rfl) (j:=3) rfl ?_
  refine Zaa [2] _ (fun L hL hcl v u hS hd K' hK=>by
   simp only[Zal,Zak,eqv,Zl3,Zl4,Nat.reduceSub]at hd
   simp only[Act.put,Zl2,Zl0,Zl1]at hK
   try simp only[hd]at hK
   have c0:=cellR xs hS.hb
   go_simp
   exact hK.out _ ⟨hS.quiet _ (by decide) _,trivial⟩) (by kernel_rfl) (j:=4) rfl ?_
  refine Zaa [3] _ (fun L hL hcl v u hS hd K' hK=>by
   simp only[Zal,Zak,eqv,Zl3,Zl4,Nat.reduceSub]at hd
   simp only[Act.put,Zl2,Zl0,Zl1]at hK
   try simp only[hd]at hK
   go_simp
   exact hK.out _ ⟨hS.quiet _ (by decide) _,trivial⟩) (by kernel_rfl) (j:=5) rfl ?_
  refine Zaa [4] _ (fun L hL hcl v u hS hd K' hK=>by
   simp only[Zal,Zak,eqv,Zl3,Zl4,Nat.reduceSub]at hd
   simp only[Act.put,Zl2,Zl0,Zl1]at hK
   try simp only[hd]at hK
   go_simp
   exact hK.out _ ⟨hS.quiet _ (by decide) _,trivial⟩) (by kernel_rfl) (j:=6) rfl ?_
  refine Zaa [] _ (fun L hL hcl v u hS hd K' hK=>by
   simp only[Act.put,Zl2,Zl0,Zl1]at hK
   go_simp
   exact hK.out _ ⟨hS.quiet _ (by decide) _,trivial⟩) (by kernel_rfl) (j:=7) rfl ?_
  refine Zaa [] _ (fun L hL hcl v u hS hd K' hK=>by
   simp only[Act.put,Zl2,Zl0,Zl1]at hK
   go_simp
   exact hK.out _ ⟨hS.quiet _ (by decide) _,trivial⟩) (by kernel_rfl) (j:=8) rfl ?_
  refine Zaa [6,7] _ (fun L hL hcl v u hS hd K' hK=>by
   simp only[Zal,Zak,eqv,Zl3,Zl4,Nat.reduceSub]at hd
   simp only[Act.put,Zl2,Zl0,Zl1]at hK
   try simp only[hd]at hK
   go_simp
   exact hK.out _ ⟨hS.quiet _ (by decide) _,trivial⟩) (by kernel_rfl) (j:=9) rfl ?_
  refine Zaa [8] _ (fun L hL hcl v u hS hd K' hK=>by
   simp only[Zal,Zak,eqv,Zl3,Zl4,Nat.reduceSub]at hd
   simp only[Act.put,Zl2,Zl0,Zl1]at hK
   try simp only[hd]at hK
   have c0:=cellR xt hS.hb
   go_simp
   exact hK.out _ ⟨hS.quiet _ (by decide) _,trivial⟩) (by kernel_rfl) (j:=10) rfl ?_
  refine Zaa [5,9] _ (fun L hL hcl v u hS hd K' hK=>by
   simp only[Zal,Zak,eqv,Zl3,Zl4,Nat.reduceSub]at hd
   simp only[Act.put,Zl2,Zl0,Zl1]at hK
   try simp only[hd]at hK
   go_simp
   exact hK.out _ ⟨hS.quiet _ (by decide) _,trivial⟩) (by kernel_rfl) (j:=11) rfl ?_
  refine Zaa [10] _ (fun L hL hcl v u hS hd K' hK=>by
   simp only[Zal,Zak,eqv,Zl3,Zl4,Nat.reduceSub]at hd
   simp only[Act.put,Zl2,Zl0,Zl1]at hK
   try simp only[hd]at hK
   go_simp
   exact hK.out _ ⟨hS.quiet _ (by decide) _,trivial⟩) (by kernel_rfl) (j:=12) rfl ?_
  refine Zam [11] (fun v _=>∃ a,v=.tuple #[.agg a,.int .i64 X1b,.int .i64 (X1c:Int)]) ((fun _ _ _ _ _ _ h=>h)) (fun L hL hcl v u hS hd K' hK=>by
   simp only[Zal,Zak,eqv,Zl3,Zl4,Nat.reduceSub]at hd
   simp only[Act.put,Zl2,Zl0,Zl1]at hK
   try simp only[hd]at hK
   have hq13:L 13=false:=by
    cases hq:L 13 with
    | false=>rfl
    | true=>have:=hcl 13 12 hq (by kernel_rfl);rw[hL]at this;cases this
   have hq14:L 14=false:=by
    cases hq:L 14 with
    | false=>rfl
    | true=>have:=hcl 14 12 hq (by kernel_rfl);rw[hL]at this;cases this
   have hq18:L 18=false:=by
    cases hq:L 18 with
    | false=>rfl
    | true=>have:=hcl 18 12 hq (by kernel_rfl);rw[hL]at this;cases this
   go_simp
   have hp9:=hpar u hS.hb
   refine hp9.mono ?_
   rintro e9 u1 ⟨⟨v9,rfl,hres⟩,hbP⟩
   obtain ⟨r,rfl,h6,h1,hex,-⟩:=Zdm hres
   have hrw9:=resE_six hres
   have hS1:=hS
   rw[hL,hq13,hq14,hq18]at hS1
   have hS2:RkS W3 X1a X1b (X1c:Int) true (L 13) (L 14) (L 17) (L 18) (Zcq v 12 (.tuple #[.agg r.toArray,.int .i64 X1b,.int .i64 (X1c:Int)])) u1:=by rw[hq13,hq14,hq18];exact hS1.call hbP h6 h1 (fun e he=>(hex e he).1)
   exact hK.out _ _ ⟨hS2,trivial,r.toArray,rfl⟩) (by kernel_rfl) (j:=13) rfl ?_
  refine Zam [12] (fun v _=>∃ a,v=.tuple #[.agg a,.int .i64 X1b,.int .i64 (X1c:Int)]) ((fun _ _ _ _ _ _ h=>h)) (fun L hL hcl v u hS hd K' hK=>by
   simp only[Zal,Zak,eqv,Zl3,Zl4,Nat.reduceSub]at hd
   simp only[Act.put,Zl2,Zl0,Zl1]at hK
   try simp only[hd]at hK
   obtain ⟨a,h12⟩:=hd
   simp only[h12]at hK ⊢
   go_simp
   have hS1:=hS
   rw[hL]at hS1
   exact hK.out _ _ ⟨hS1.moved h12,trivial,a,rfl⟩) (by kernel_rfl) (j:=14) rfl ?_
  refine Zam [13] (fun v _=>∃ a,v=.agg a) ((fun _ _ _ _ _ _ h=>h)) (fun L hL hcl v u hS hd K' hK=>by
   simp only[Zal,Zak,eqv,Zl3,Zl4,Nat.reduceSub]at hd
   simp only[Act.put,Zl2,Zl0,Zl1]at hK
   try simp only[hd]at hK
   obtain ⟨a,h13⟩:=hd
   simp only[h13]at hK ⊢
   go_simp
   have hS1:=hS
   rw[hL]at hS1
   exact hK.out _ _ ⟨hS1.taken h13,trivial,a,rfl⟩) (by kernel_rfl) (j:=15) rfl ?_
  refine Zam [13] (fun v _=>v=.int .i64 X1b) ((fun _ _ _ _ _ _ h=>h)) (fun L hL hcl v u hS hd K' hK=>by
   simp only[Zal,Zak,eqv,Zl3,Zl4,Nat.reduceSub]at hd
   simp only[Act.put,Zl2,Zl0,Zl1]at hK
   try simp only[hd]at hK
   obtain ⟨a,h13⟩:=hd
   simp only[h13]at hK ⊢
   go_simp
   exact hK.out _ _ ⟨hS.quiet _ (by decide) _,trivial,rfl⟩) (by kernel_rfl) (j:=16) rfl ?_
  refine Zam [13] (fun v _=>v=.int .i64 (X1c:Int)) ((fun _ _ _ _ _ _ h=>h)) (fun L hL hcl v u hS hd K' hK=>by
   simp only[Zal,Zak,eqv,Zl3,Zl4,Nat.reduceSub]at hd
   simp only[Act.put,Zl2,Zl0,Zl1]at hK
   try simp only[hd]at hK
   obtain ⟨a,h13⟩:=hd
   simp only[h13]at hK ⊢
   go_simp
   exact hK.out _ _ ⟨hS.quiet _ (by decide) _,trivial,rfl⟩) (by kernel_rfl) (j:=17) rfl ?_
  refine Zam [] (fun v _=>∃ p,v=.pointer (some ⟨p,0,none⟩)) ((fun _ _ _ _ _ _ h=>h)) (fun L hL hcl v u hS hd K' hK=>by
   simp only[Act.put,Zl2,Zl0,Zl1]at hK
   have hq18:L 18=false:=by
    cases hq:L 18 with
    | false=>rfl
    | true=>have:=hcl 18 17 hq (by kernel_rfl);rw[hL]at this;cases this
   go_simp
   have hS1:=hS
   rw[hL,hq18]at hS1
   have hS2:RkS W3 X1a X1b (X1c:Int) (L 12) (L 13) (L 14) true (L 18) (Zcq v 17 (.pointer (some ⟨u.heap.size,0,none⟩))) (u.alloc (.cells Zag.toArray 26)):=by rw[hq18];exact hS1.made
   exact hK.out (.pointer (some ⟨u.heap.size,0,none⟩)) _ ⟨hS2,trivial,u.heap.size,rfl⟩) (by kernel_rfl) (j:=18) rfl ?_
  refine Zam [14,17] (fun _ _=>True) ((fun _ _ _ _ _ _ h=>h)) (fun L hL hcl v u hS hd K' hK=>by
   simp only[Zal,Zak,eqv,Zl3,Zl4,Nat.reduceSub]at hd
   obtain ⟨⟨a,h14⟩,p,h17⟩:=hd
   have hS1:=hS
   rw[hL]at hS1
   obtain ⟨r,hra,h6,h1,kp,hS2⟩:=hS1.stored h14 h17
   subst hra
   refine Zbe rfl ?_
   refine wp_store_row 26 _ _ rfl _ r.toArray (by simp[h17];rfl) (by simp[h14];rfl) 26 Zag.toArray kp (kE6 h6) (by simp[h6,Zag,Zav]) (Zas h1) ?_
   exact hK.out undef _ ⟨hS2,trivial,trivial⟩) (by kernel_rfl) (j:=19) rfl ?_
  refine Zam [15] (fun v _=>v=.int .i64 X1b) ((fun _ _ _ _ _ _ h=>h)) (fun L hL hcl v u hS hd K' hK=>by
   simp only[Zal,Zak,eqv,Zl3,Zl4,Nat.reduceSub]at hd
   simp only[Act.put,Zl2,Zl0,Zl1]at hK
   try simp only[hd]at hK
   have h15:=hd
   simp only[h15]at hK ⊢
   go_simp
   exact hK.out _ _ ⟨hS.quiet _ (by decide) _,trivial,rfl⟩) (by kernel_rfl) (j:=20) rfl ?_
  refine Zaa [16] _ (fun L hL hcl v u hS hd K' hK=>by
   simp only[Zal,Zak,eqv,Zl3,Zl4,Nat.reduceSub]at hd
   simp only[Act.put,Zl2,Zl0,Zl1]at hK
   try simp only[hd]at hK
   go_simp
   exact hK.out _ ⟨hS.quiet _ (by decide) _,trivial⟩) (by kernel_rfl) (j:=21) rfl ?_
  refine Zau [17,19] (by decide) ?_
  rintro v u hS hR
  simp only[Zal,Zak,eqv,Zl3,Zl4,Nat.reduceSub]at hR
  obtain ⟨p,r,h17,kp,hex,hbx⟩:=hS.done
  obtain ⟨-,h19⟩:=hR
  simp only[h17,h19]
  go_wp2_with (first|(at_builtin;fail))
  go_meet
  case rel=>exact ⟨p,r,rfl,rfl,kp,hex,hbx⟩
 case rest=>
  obtain ⟨p,r,rfl,rfl,kp,hex,hbx⟩:=hcut
  have hbw:Below w.heap.size w wc:=bt hb3 hbx
  have kr1:=kr.below hbx
  have ko1:=ko3.below hbx
  have xri:wc.cell? ⟨g+1+1,i,none⟩=some (.int .i64 (rnkA i:Int)):=(kr1.cell i).trans fri
  have xrk:wc.cell? ⟨g+1+1,k,none⟩=some (.int .i64 (rnkA k:Int)):=(kr1.cell k).trans frk
  have xoi:wc.cell? ⟨g+1,i,none⟩=some (.int .u8 (opA i:Int)):=(ko1.cell i).trans foi
  have xok:wc.cell? ⟨g+1,k,none⟩=some (.int .u8 (opA k:Int)):=(ko1.cell k).trans fok
  have hXX:=hX.out
  unfold rkR rkE at hXX
  obtain ⟨ri9,hri⟩:=Zaf (rnkA i)
  obtain ⟨rk9,hrk⟩:=Zaf (rnkA k)
  obtain ⟨oi9,hoi⟩:=Zaf (opA i)
  obtain ⟨ok9,hok⟩:=Zaf (opA k)
  rw[←hri.out]at xri hXX
  rw[←hrk.out]at xrk hXX
  rw[←hoi.out]at xoi hXX
  rw[←hok.out]at xok hXX
  clear kr1 ko1 kr ko3 ks3 hpar a1 a2 a3 a4 xs xt xs2 xt2 fri frk foi fok fsi fsk hX ri rk oi ok li lk
  by_cases h2:ri9=2∧rk9=2
  · obtain ⟨rfl,rfl⟩:=h2
    rw[if_pos ⟨rfl,rfl⟩]at hXX
    have e1:X1b=5:=by simpa using congrArg (fun x=>x.2.1) hXX
    subst e1
    clear hXX
    have f1:(((2:Nat):Int) == 2)=true:=by decide
    go_wp2_with (first|(at_builtin;fail))
    go_ret
    exact ⟨rfl,hbw⟩
  · rw[if_neg h2]at hXX
    have e1:X1b=0:=by simpa using congrArg (fun x=>x.2.1) hXX
    have e2:=congrArg (fun x=>x.1) hXX
    simp only[]at e2
    subst e1
    clear hXX
    have hd:((ri9:Int) == 2)=false∨((ri9:Int) == 2)=true∧((rk9:Int) == 2)=false:=by
     by_cases h3:ri9=2
     · refine .inr ⟨by rw[beq_iff_eq];omega,by rw[beq_eq_false_iff_ne];omega⟩
     · exact .inl (by rw[beq_eq_false_iff_ne];omega)
    by_cases hge:rk9≤ri9
    · rw[if_pos hge]at e2
      have hE:=hex _ e2
      obtain ⟨A,c,yb,yo,d,q0,q1,rfl,h0,h1,hc0,hc1⟩:=kids2 hE
      have z0:wc.cell? ⟨yb,yo,none⟩=some (.int .u8 (oi9:Int)):=hc0 0 _ (mk_row h0).1
      have z1:wc.cell? ⟨yb,yo+6+1,none⟩=some (.int .i64 3):=hc1 1 _ (mk_row h1).2
      have p0:wc.cell? ⟨p,0,none⟩=some (.int .u8 (ok9:Int)):=kp.cell 0
      have p5:wc.cell? ⟨p,5,none⟩=some (.slice (some ⟨yb,yo,none⟩) 2 d):=kp.cell 5
      have hg1:(rk9:Int)≤(ri9:Int):=by omega
      clear hE h0 h1 hc0 hc1 hex e2 kp
      rcases hd with hd|⟨hd,hd2⟩ <;>
      · go_wp2_with (first|(at_builtin;fail)|go_quiet (fail))
        go_ret
        exact ⟨rfl,by first|exact hbw|exact Zbz hbw _|exact Zbz (Zbz hbw _) _⟩
    · rw[if_neg hge]at e2
      have hE:=hex _ e2
      obtain ⟨A,c,yb,yo,d,q0,q1,rfl,h0,h1,hc0,hc1⟩:=kids2 hE
      have z0:wc.cell? ⟨yb,yo+1,none⟩=some (.int .i64 1):=hc0 1 _ (mk_row h0).2
      have z1:wc.cell? ⟨yb,yo+6,none⟩=some (.int .u8 (ok9:Int)):=hc1 0 _ (mk_row h1).1
      have p0:wc.cell? ⟨p,0,none⟩=some (.int .u8 (oi9:Int)):=kp.cell 0
      have p5:wc.cell? ⟨p,5,none⟩=some (.slice (some ⟨yb,yo,none⟩) 2 d):=kp.cell 5
      have hg1:¬ (rk9:Int)≤(ri9:Int):=by omega
      clear hE h0 h1 hc0 hc1 hex e2 kp
      rcases hd with hd|⟨hd,hd2⟩ <;>
      · go_wp2_with (first|(at_builtin;fail)|go_quiet (fail))
        go_ret
        exact ⟨rfl,by first|exact hbw|exact Zbz hbw _|exact Zbz (Zbz hbw _) _⟩
end Go.Proofs.YtnhooehmcggmdaaGreatDoor
