import Derived.Test.YtmcbolkpbklfeaaGreatDoorShort
import Derived.Lib.Strings
import Derived.Lib.Bytealg
import Derived.Test.YtmcbolkpbklfeaaGreatDoorNumParse
/- merged by wip/merge.py from: BnPlain NumRParse -/
set_option maxRecDepth 100000
set_option maxHeartbeats 51200000
namespace Go.Proofs.YtmcbolkpbklfeaaGreatDoor
namespace Bn
open Go
def lineN (l:List UInt8):Nat:=if Lib.indexByte l 10+1=0 then l.length else(Lib.indexByte l 10+1).toNat
theorem index_in:∀ (l:List UInt8) (c:UInt8),Lib.indexByte l c=-1\/(0<=Lib.indexByte l c/\Lib.indexByte l c < l.length)
 | [],_=>.inl rfl
 | b :: l,c=>by
  have ih:=index_in l c;unfold Lib.indexByte;rw [List.length_cons]
  split
  ·exact .inr ⟨by omega,by omega⟩
  ·split
   ·exact .inl rfl
   ·rename_i h
    have:Lib.indexByte l c≠-1:=by simpa using h
    exact .inr ⟨by omega,by omega⟩
theorem lineN_in {l:List UInt8} (h:l≠[]):1<=lineN l/\lineN l<=l.length:=by
 have hl:1<=l.length:=List.length_pos_iff.2 h;unfold lineN;rcases index_in l 10 with e | ⟨h1,h2⟩
 ·rw [e,if_pos (by decide)]
  omega
 ·rw [if_neg (by omega)]
  omega
def linesF:Nat->List UInt8->List (List UInt8)
 | 0,_=>[]
 | f+1,l=>if l=[] then [] else l.take (lineN l) :: linesF f (l.drop (lineN l))
def linesT (l:List UInt8):List (List UInt8):=linesF l.length l
theorem linesF_more:∀ (f1 f2:Nat) (l:List UInt8),l.length<=f1->l.length<=f2->linesF f1 l=linesF f2 l
 | 0,0,_,_,_=>rfl
 | 0,f2+1,l,h,_=>by
  have:l=[]:=List.length_eq_zero_iff.1 (by omega);subst this
  rfl
 | f1+1,0,l,_,h=>by
  have:l=[]:=List.length_eq_zero_iff.1 (by omega);subst this
  rfl
 | f1+1,f2+1,l,h1,h2=>by
  unfold linesF
  split
  ·rfl
  ·rename_i hl
   have h:=lineN_in hl;rw [linesF_more f1 f2 (l.drop (lineN l)) (by rw [List.length_drop];omega) (by rw [List.length_drop];omega)]
theorem linesT_cons {l:List UInt8} (h:l≠[]):linesT l=l.take (lineN l) :: linesT (l.drop (lineN l)):=by
 have hn:=lineN_in h;have hl:1<=l.length:=List.length_pos_iff.2 h;unfold linesT;obtain ⟨k,hk⟩:∃ k,l.length=k+1:=⟨l.length - 1,by omega⟩;rw [hk,linesF,if_neg h,linesF_more k _ _ (by rw [List.length_drop];omega) nlq]
abbrev Pb:=List UInt8 × List UInt8
def headB (l:List UInt8):Bool:=Lib.hasPrefix (Lib.trimSuffix l [10]) [61,61,32]
def addLast:List Pb->List UInt8->List Pb
 | [],_=>[]
 | [p],l=>[(p.1,p.2 ++ l)]
 | p :: q :: r,l=>p :: addLast (q :: r) l
def stepP (name:List UInt8->List UInt8) (out:List Pb) (l:List UInt8):List Pb:=if headB l=true then out ++ [(name l,[])] else addLast out l
def problemsL (name:List UInt8->List UInt8) (l:List UInt8):List Pb:=(linesT l).foldl (stepP name) []
end Bn
end Go.Proofs.YtmcbolkpbklfeaaGreatDoor
