/- Parts of a proof about the given program: XTok0. -/
import Derived.Lib.ParseIntB
import Derived.Test.YtnhooehmcggmdaaGreatDoorZ00
namespace Go.Proofs.YtnhooehmcggmdaaGreatDoor
set_option maxHeartbeats 16000000
set_option linter.unusedVariables false
set_option linter.unusedSimpArgs false
set_option linter.unusedSectionVars false
def Zga (b:UInt8):Bool:=decide (b.toNat=32∨b.toNat=9∨b.toNat=10∨b.toNat=13)
def Zqc (b:UInt8):Nat:=if Zga b then 1 else if Zhd b then 2 else if Zgz b then 4 else 0
def Zey (m:Nat) (b:UInt8):Bool:=decide (Zqc b &&& m ≠ 0)
def Zba (m:Nat) (l:List UInt8):Nat:=(l.takeWhile (Zey m)).length
def Zec (l:List UInt8):List UInt8:=
 let t:=l.drop (Zba 1 l)
 if List.isPrefixOf [47,47] t then t.dropWhile (fun b=>b.toNat ≠ 10) else t
def Zse:Nat→List UInt8→List UInt8
 | 0,l=>l
 | f+1,l=>if (Zec l).length=l.length then l else Zse f (Zec l)
def Zco (l:List UInt8):List UInt8:=Zse (l.length+1) l
structure Tok where
 k:Nat
 t:List UInt8
 n:Int
 at_:Nat
deriving DecidableEq
def escL (b:UInt8):Option (List UInt8):=
 if b.toNat=34 then some [34] else if b.toNat=92 then some [92] else if b.toNat=110 then some [10] else if b.toNat=116 then some [9] else if b.toNat=48 then some [0] else if b.toNat=42 then some [92,42] else none
def Zia:List UInt8→List UInt8→Nat→Option (List UInt8 × Nat × Bool)
 | [],acc,n=>some (acc,n,false)
 | b :: r,acc,n=>
   if b.toNat=34 then some (acc,n,true)
   else if b.toNat=92 then
    match r with
    | []=>none
    | c :: r'=>match escL c with
      | none=>none
      | some x=>Zia r' (acc ++ x) (n+2)
   else if b.toNat=10 then none
   else Zia r (acc ++ [b]) (n+1)
def Zcc:List (List UInt8):=[[61,61],[33,61],[60,61],[62,61],[38,38],[124,124],[58,58]]
def Zew:List UInt8:=[60,62,43,45,42,33,40,41,91,93,123,125,44,59,58,46]
def Zdb (l:List UInt8):Except Int (Tok × Nat):=
 match l with
 | []=>.error 5
 | b :: r=>
   if Zhd b then .ok (⟨1,l.take (Zba 6 l),0,0⟩,Zba 6 l)
   else if Zgz b then
    let n:=Zba 4 l
    match Lib.parseIntB 64 (l.take n) with
    | .ok x=>if (n > 1∧b.toNat=48)∨Zba 2 (l.drop n) > 0 then .error 5 else .ok (⟨2,[],x,0⟩,n)
    | _=>.error 5
   else if b.toNat=34 then
    match Zia r [] 1 with
    | none=>.error 5
    | some (t,n,c)=>if c=false then .error 5 else if Lib.validD t=false then .error 6 else if t.length > 256 then .error 3 else .ok (⟨3,t,0,0⟩,n+1)
   else if Zcc.contains (l.take 2) then .ok (⟨4,l.take 2,0,0⟩,2)
   else if Zew.contains b then .ok (⟨4,[b],0,0⟩,1) else .error 5
def Zrq:Nat→Nat→List UInt8→Except (Int × Nat) (List Tok)
 | 0,_,_=>.ok []
 | f+1,N,l=>if l=[] then .ok [] else
   match Zdb l with
   | .error e=>.error (e,N - l.length)
   | .ok (t,n)=>match Zrq f N (Zco (l.drop n)) with
     | .ok ts=>.ok ({ t with at_:=N - l.length } :: ts)
     | .error e=>.error e
def Zln (s:List UInt8):Except (Int × Nat) (List Tok):=if s.length > 2048 then .error (3,0) else Zrq (s.length+1) s.length (Zco s)
end Go.Proofs.YtnhooehmcggmdaaGreatDoor
