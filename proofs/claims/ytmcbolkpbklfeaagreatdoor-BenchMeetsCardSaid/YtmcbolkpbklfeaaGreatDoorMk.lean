import Derived.Test.YtmcbolkpbklfeaaGreatDoorShort
import Derived.Test.YtmcbolkpbklfeaaGreatDoorMf
import Derived.Test.YtmcbolkpbklfeaaGreatDoorMe
import Derived.Test.YtmcbolkpbklfeaaGreatDoorMi
import Derived.Test.YtmcbolkpbklfeaaGreatDoorNumPlain
/- merged by wip/merge.py from: ElPlain -/
set_option maxRecDepth 100000
set_option maxHeartbeats 51200000
namespace Go.Proofs.YtmcbolkpbklfeaaGreatDoor
namespace El
open Go.RowKit Dt Sg
structure Node where
 op:Int
 len:Int
 a0:Int
 a1:Int
 a2:Int
 sort:Int
 fn:Int
 n:Int
deriving DecidableEq
def Node.arg (x:Node) (i:Nat):Int:=if i=0 then x.a0 else if i=1 then x.a1 else x.a2
abbrev V:=Int × Int
structure St where
 t:List Node
 calls:Int
 e:Int
def v0:V:=(0,0)
def arityN (op:Int):Option (Int × Int) :=
 if op=13 then some (0,3)
 else if op=0\/op=10 then some (0,0)
 else if op=1\/op=11 then some (1,1)
 else if op=2\/op=3\/op=4\/op=5\/op=6\/op=8\/op=9\/op=12 then some (2,2)
 else if op=7 then some (3,3)
 else none
def argOkB (n:Node) (at':Int) (i:Nat):Bool:=if(i:Int) < n.len then decide (0<=n.arg i/\n.arg i < at') else decide (n.arg i=0)
def standsN (n:Node) (at':Int):Bool :=
 match arityN n.op with
 | none=>false
 | some (lo,hi)=>decide (lo<=n.len/\n.len<=hi) && decide (0<=n.sort/\n.sort < 6) && argOkB n at' 0 && argOkB n at' 1 && argOkB n at' 2
  && decide (0<=n.fn/\n.fn < 12) && (decide (n.fn=0) || decide (n.op=13)) && (if n.op=10\/n.op=11\/n.op=12 then mayB n.n else decide (n.n=0))
def nodeTrue:Node:=⟨0,0,0,0,0,0,0,0⟩
def nodeZero:Node:=⟨10,0,0,0,0,1,0,0⟩
def newT:List Node:=[nodeTrue,nodeZero]
def standsTo (t:List Node) (k:Nat):Bool:=(List.range k).all fun i=>match t[i]? with
 | some n=>standsN n i
 | none=>true
def checkT (t:List Node):Bool:=decide (t.take 2=newT) && standsTo t t.length && decide t.Nodup
end El
end Go.Proofs.YtmcbolkpbklfeaaGreatDoor
