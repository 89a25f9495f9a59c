import Derived.Test.YtmcbolkpbklfeaaGreatDoorShort
import Derived.Test.YtmcbolkpbklfeaaGreatDoorMk
import Derived.Test.YtmcbolkpbklfeaaGreatDoorMd
import Derived.Test.YtmcbolkpbklfeaaGreatDoorMc
import Derived.Deep.Cut
/- merged by wip/merge.py from: TmArity -/
set_option maxRecDepth 100000
set_option maxHeartbeats 51200000
namespace Go.Proofs.YtmcbolkpbklfeaaGreatDoor
namespace El
open Go.RowKit Dt Sg
def nodeL (n:Node):List Value:=[.int .i8 n.op,.int .i8 n.len,.int .i64 n.a0,.int .i64 n.a1,.int .i64 n.a2,.int .i64 n.sort,.int .i64 n.fn,.int .i64 n.n]
def I8 (n:Int):Prop:=(Lit.int .i8 n).wf=true
structure NodeI (n:Node):Prop where
 op:I8 n.op
 len:I8 n.len
 a0:I64 n.a0
 a1:I64 n.a1
 a2:I64 n.a2
 sort:I64 n.sort
 fn:I64 n.fn
 n:I64 n.n
def NodeR (_:World) (vs:List Value) (n:Node):Prop:=vs=nodeL n/\NodeI n
theorem NodeR.lasts:Lasts NodeR:=fun _ _ _ _ _ h=>h
theorem I8.lo {n:Int} (h:I8 n):-128<=n:=by unfold I8 at h;simp [Lit.wf] at h;have h2:=h.1;rw [show IntKind.i8.min=-128 by rfl] at h2;exact h2
theorem I8.hi {n:Int} (h:I8 n):n<=127:=by unfold I8 at h;simp [Lit.wf] at h;have h2:=h.2;rw [show IntKind.i8.max=127 by rfl] at h2;exact h2
theorem below_drewN {B:Nat} {w w':World} (h:Below B w w') (n:Nat):Below B w (w'.drewN n):=⟨h.os,h.tape,h.output,h.size,h.block⟩
def NodeAt (w:World) (b o:Nat) (n:Node):Prop:=b < w.heap.size/\w.cell? ⟨b,o,none⟩=some (.int .i8 n.op)/\w.cell? ⟨b,o+1,none⟩=some (.int .i8 n.len)/\w.cell? ⟨b,o+2,none⟩=some (.int .i64 n.a0)/\w.cell? ⟨b,o+3,none⟩=some (.int .i64 n.a1)/\w.cell? ⟨b,o+4,none⟩=some (.int .i64 n.a2)/\w.cell? ⟨b,o+5,none⟩=some (.int .i64 n.sort)/\w.cell? ⟨b,o+6,none⟩=some (.int .i64 n.fn)/\w.cell? ⟨b,o+7,none⟩=some (.int .i64 n.n)
theorem NodeAt.on {w w':World} {b o:Nat} {n:Node} (h:NodeAt w b o n) (hb:Below w.heap.size w w'):NodeAt w' b o n:=by
 obtain ⟨hl,h0,h1,h2,h3,h4,h5,h6,h7⟩:=h;have k:=fun j=>(bcell hb).1 b j hl;exact⟨Nat.lt_of_lt_of_le hl hb.size,(k _).trans h0,(k _).trans h1,(k _).trans h2,(k _).trans h3,(k _).trans h4,(k _).trans h5,(k _).trans h6,(k _).trans h7⟩
theorem node_get {w:World} {A:Option Addr} {l:List Node} (h:Lies 8 NodeR w A l) {k:Nat} {n:Node} (hn:l[k]?=some n):∃ b o,A=some ⟨b,o,none⟩/\NodeAt w b (o+k * 8) n/\NodeI n:=by
 obtain ⟨b,o,vs,hA,hb,_,hc,rfl,hi⟩:=h.at' hn;exact⟨b,o,hA,⟨hb,hc 0 _ rfl,hc 1 _ rfl,hc 2 _ rfl,hc 3 _ rfl,hc 4 _ rfl,hc 5 _ rfl,hc 6 _ rfl,hc 7 _ rfl⟩,hi⟩
theorem node_block {w:World} {b:Nat} {n:Node} {t:TypeId} (h:w.heap[b]?=some (.cells (nodeL n).toArray t (0,0))):NodeAt w b 0 n:=by
 obtain ⟨h0,h1,h2,h3,h4,h5,h6,h7,_⟩:=Bk.c8 h;exact⟨lt_of_block h,h0,h1,h2,h3,h4,h5,h6,h7⟩
def arLo (op:Int):Int:=match arityN op with | some p=>p.1 | none=>0
def arHi (op:Int):Int:=match arityN op with | some p=>p.2 | none=>0
theorem arity_any (op:Int) (hop:I8 op) (w:World) :
  Calls Tryz.prog 307 #[.int .i8 op] w fun e w'=>e=.returned (.tuple #[.int .i8 (arLo op),.int .i8 (arHi op),.bool (arityN op).isSome])/\Below w.heap.size w w':=by
 have h1:=hop.lo;have h2:=hop.hi
 by_cases ho:0<=op/\op<=13
 ·obtain ⟨ha,hb⟩:=ho;have:op=0\/op=1\/op=2\/op=3\/op=4\/op=5\/op=6\/op=7\/op=8\/op=9\/op=10\/op=11\/op=12\/op=13:=by omega
  rcases this with rfl | rfl | rfl | rfl | rfl | rfl | rfl | rfl | rfl | rfl | rfl | rfl | rfl | rfl
  all_goals
   clear h1 h2 ha hb
   go_enter Tryz.func307,Tryz.ntmps307
   go_wp2_with fail
   try go_quiet (fail)
   go_wp2_with fail
   go_ret3;exact⟨rfl,by first | exact Below.refl _ _ | exact below_drewN ((Below.refl _ _).alloc nlq _) _⟩
 ·have hN:=kp (show arityN op=none by unfold arityN;rw [if_neg (by omega),if_neg (by omega),if_neg (by omega),if_neg (by omega),if_neg (by omega)]);have h13:(op == 13)=false:=by rw [beq_eq_false_iff_ne];omega
  go_enter Tryz.func307,Tryz.ntmps307
  by_cases h0:op < 0
  ·go_wp2_with fail
   go_ret3;exact⟨by unfold arLo arHi;rw [hN.out];rfl,(Below.refl _ _).alloc nlq _⟩
  ·have h0':=dfq h0;have h9:13<=op:=by omega
   go_wp2_with fail
   go_ret3;exact⟨by unfold arLo arHi;rw [hN.out];rfl,(Below.refl _ _).alloc nlq _⟩
end El
end Go.Proofs.YtmcbolkpbklfeaaGreatDoor
