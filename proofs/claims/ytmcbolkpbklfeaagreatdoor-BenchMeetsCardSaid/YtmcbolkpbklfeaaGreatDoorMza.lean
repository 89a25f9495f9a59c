import Derived.Test.YtmcbolkpbklfeaaGreatDoorShort
import Derived.Test.YtmcbolkpbklfeaaGreatDoorMp
import Derived.Laws.Tables
/- merged by wip/merge.py from: TyRules -/
set_option maxRecDepth 100000
set_option maxHeartbeats 51200000
namespace Go.Proofs.YtmcbolkpbklfeaaGreatDoor
namespace El
open Go.RowKit Dt Sg
def ruleL (op:Int):Int × Int × Int :=
 if op=0 then(0,-1,0) else if op=1 then(1,0,0) else if op=2\/op=3\/op=4\/op=5 then(2,0,0) else if op=6 then(2,-1,0) else if op=7 then(3,-1,-1)
 else if op=8\/op=9\/op=12 then(2,1,0) else if op=10 then(0,-1,1) else if op=11 then(1,1,1) else(0,0,0)
def ruleK (op:Int):Bool:=decide (0<=op/\op<=12)
def ruleArr:Array Value:=#[.int .i64 0,.int .i64 (-1),.int .i64 0,.bool true,.int .i64 1,.int .i64 0,.int .i64 0,.bool true,.int .i64 2,.int .i64 0,.int .i64 0,.bool true,.int .i64 2,.int .i64 0,.int .i64 0,.bool true,.int .i64 2,.int .i64 0,.int .i64 0,.bool true,.int .i64 2,.int .i64 0,.int .i64 0,.bool true,.int .i64 2,.int .i64 (-1),.int .i64 0,.bool true,.int .i64 3,.int .i64 (-1),.int .i64 (-1),.bool true,.int .i64 2,.int .i64 1,.int .i64 0,.bool true,.int .i64 2,.int .i64 1,.int .i64 0,.bool true,.int .i64 0,.int .i64 (-1),.int .i64 1,.bool true,.int .i64 1,.int .i64 1,.int .i64 1,.bool true,.int .i64 2,.int .i64 1,.int .i64 0,.bool true]
theorem rule_cells {w:World} {b:Nat} {t:TypeId} (h:w.heap[b]?=some (.cells ruleArr t (0,0))) (op:Int) (ho:0<=op/\op<=12) :
  w.cell? ⟨b,op.toNat * 4,none⟩=some (.int .i64 (ruleL op).1)/\w.cell? ⟨b,op.toNat * 4+1,none⟩=some (.int .i64 (ruleL op).2.1)/\w.cell? ⟨b,op.toNat * 4+2,none⟩=some (.int .i64 (ruleL op).2.2)/\w.cell? ⟨b,op.toNat * 4+3,none⟩=some (.bool true):=by
 have:op=0\/op=1\/op=2\/op=3\/op=4\/op=5\/op=6\/op=7\/op=8\/op=9\/op=10\/op=11\/op=12:=by omega
 rcases this with rfl | rfl | rfl | rfl | rfl | rfl | rfl | rfl | rfl | rfl | rfl | rfl | rfl <;> exact⟨by rw [cell_of_cells h];rfl,by rw [cell_of_cells h];rfl,by rw [cell_of_cells h];rfl,by rw [cell_of_cells h];rfl⟩
theorem run_rules (W:World):(Instr.build 520 #[(0,(.agg #[.int .i64 0,.int .i64 (-1),.int .i64 0,.bool true])),(1,(.agg #[.int .i64 1,.int .i64 0,.int .i64 0,.bool true])),(2,(.agg #[.int .i64 2,.int .i64 0,.int .i64 0,.bool true])),(3,(.agg #[.int .i64 2,.int .i64 0,.int .i64 0,.bool true])),(4,(.agg #[.int .i64 2,.int .i64 0,.int .i64 0,.bool true])),(5,(.agg #[.int .i64 2,.int .i64 0,.int .i64 0,.bool true])),(6,(.agg #[.int .i64 2,.int .i64 (-1),.int .i64 0,.bool true])),(7,(.agg #[.int .i64 3,.int .i64 (-1),.int .i64 (-1),.bool true])),(8,(.agg #[.int .i64 2,.int .i64 1,.int .i64 0,.bool true])),(9,(.agg #[.int .i64 2,.int .i64 1,.int .i64 0,.bool true])),(10,(.agg #[.int .i64 0,.int .i64 (-1),.int .i64 1,.bool true])),(11,(.agg #[.int .i64 1,.int .i64 1,.int .i64 1,.bool true])),(12,(.agg #[.int .i64 2,.int .i64 1,.int .i64 0,.bool true]))]).run Tryz.prog W=.ok (.agg ruleArr) W:=run_build W _ _ _ (by kernel_rfl)
theorem rule_ret {f:Func} {w:World} {b:Nat} {r0 r1 r2 r3:Value} {act:Act} {t:TypeId} {R:Ending->World->Prop} (hf:f.results=#[.cell 2 431]) (hb:w.heap[b]?=some (.cells #[r0,r1,r2,r3] t (0,0))) (h2:act.tmps[2]?=some (.pointer (some ⟨b,0,none⟩))) (hd:act.defers=[]) (hR:R (.returned (.agg #[r0,r1,r2,r3])) w) :
  bodyPost Tryz.prog f R .ret act w:=by
 obtain ⟨y0,y1,y2,y3,_⟩:=Bk.c4 hb;refine bodyPost_ret (v:=.agg #[r0,r1,r2,r3]) ?_ hd hR;simp [results,hf,go_sem,y0,y1,y2,y3,h2]
def set4' (w:World) (b:Nat) (v0 v1 v2 v3:Value):World:=(((w.setCell ⟨b,0,none⟩ v0).setCell ⟨b,1,none⟩ v1).setCell ⟨b,2,none⟩ v2).setCell ⟨b,3,none⟩ v3
theorem set4'_at {w:World} {b:Nat} {a0 a1 a2 a3:Value} {t:TypeId} (h:w.heap[b]?=some (.cells #[a0,a1,a2,a3] t (0,0))) (v0 v1 v2 v3:Value):(set4' w b v0 v1 v2 v3).heap[b]?=some (.cells #[v0,v1,v2,v3] t (0,0)):=by
 simp [set4',World.setCell,Array.getElem?_modify,h]
theorem set4'_below {B b:Nat} {w0 w:World} (h:Below B w0 w) (hb:B<=b) (v0 v1 v2 v3:Value):Below B w0 (set4' w b v0 v1 v2 v3) :=
 (((h.setCell (p:=⟨b,0,none⟩) hb v0).setCell (p:=⟨b,1,none⟩) hb v1).setCell (p:=⟨b,2,none⟩) hb v2).setCell (p:=⟨b,3,none⟩) hb v3
theorem below_setRow {B g:Nat} {w w':World} (h:Below B w w') (hg:B<=g) (cs:Array Value):Below B w (w'.setRow g cs) :=
 ⟨h.os,h.tape,h.output,by simpa [World.setRow] using h.size,fun k hk=>(setRow_other w' g k cs (by omega)).trans (h.block k hk)⟩
theorem rules_any (op:Int) (hop:I8 op) (w:World) :
  Calls Tryz.prog 308 #[.int .i8 op] w fun e w'=>e=.returned (.agg #[.int .i64 (ruleL op).1,.int .i64 (ruleL op).2.1,.int .i64 (ruleL op).2.2,.bool (ruleK op)])/\Below w.heap.size w w':=by
 have ho1:=hop.lo;have ho2:=hop.hi;have RB:=kp (Bk.new w (.cells #[.int .i64 0,.int .i64 0,.int .i64 0,.bool false] 431));have B1:=kp ((brq w).alloc nlq (.cells #[.int .i64 0,.int .i64 0,.int .i64 0,.bool false] 431));have HZ:=kp (show w.heap.size < (w.alloc (.cells #[.int .i64 0,.int .i64 0,.int .i64 0,.bool false] 431)).heap.size by simp)
 go_enter Tryz.func308,Tryz.ntmps308
 go_upto_region 1 with fail
 generalize w.alloc (.cells #[.int .i64 0,.int .i64 0,.int .i64 0,.bool false] 431)=w1 at *;have hrun:=run_rules
 go_upto_region 2 with(refine wpList_store_row rfl 520 (.tmp 3) (.tmp 17) rfl w1.heap.size ruleArr rfl rfl 520 _ (Bk.new w1 _) (by kernel_rfl) rfl (by kernel_rfl) ?_)
 clear hrun;have AB:=kp (setRow_heap (w1.alloc (.cells #[.int .i64 0,.int .i64 0,.int .i64 0,.bool false,.int .i64 0,.int .i64 0,.int .i64 0,.bool false,.int .i64 0,.int .i64 0,.int .i64 0,.bool false,.int .i64 0,.int .i64 0,.int .i64 0,.bool false,.int .i64 0,.int .i64 0,.int .i64 0,.bool false,.int .i64 0,.int .i64 0,.int .i64 0,.bool false,.int .i64 0,.int .i64 0,.int .i64 0,.bool false,.int .i64 0,.int .i64 0,.int .i64 0,.bool false,.int .i64 0,.int .i64 0,.int .i64 0,.bool false,.int .i64 0,.int .i64 0,.int .i64 0,.bool false,.int .i64 0,.int .i64 0,.int .i64 0,.bool false,.int .i64 0,.int .i64 0,.int .i64 0,.bool false,.int .i64 0,.int .i64 0,.int .i64 0,.bool false] 520)) w1.heap.size _ ruleArr 520 (0,0) (Bk.new w1 _));have R2:=kp ((setRow_other (w1.alloc (.cells #[.int .i64 0,.int .i64 0,.int .i64 0,.bool false,.int .i64 0,.int .i64 0,.int .i64 0,.bool false,.int .i64 0,.int .i64 0,.int .i64 0,.bool false,.int .i64 0,.int .i64 0,.int .i64 0,.bool false,.int .i64 0,.int .i64 0,.int .i64 0,.bool false,.int .i64 0,.int .i64 0,.int .i64 0,.bool false,.int .i64 0,.int .i64 0,.int .i64 0,.bool false,.int .i64 0,.int .i64 0,.int .i64 0,.bool false,.int .i64 0,.int .i64 0,.int .i64 0,.bool false,.int .i64 0,.int .i64 0,.int .i64 0,.bool false,.int .i64 0,.int .i64 0,.int .i64 0,.bool false,.int .i64 0,.int .i64 0,.int .i64 0,.bool false,.int .i64 0,.int .i64 0,.int .i64 0,.bool false] 520)) w1.heap.size w.heap.size ruleArr (by have:=HZ.out;omega)).trans (Bk.keep RB.out (.cells #[.int .i64 0,.int .i64 0,.int .i64 0,.bool false,.int .i64 0,.int .i64 0,.int .i64 0,.bool false,.int .i64 0,.int .i64 0,.int .i64 0,.bool false,.int .i64 0,.int .i64 0,.int .i64 0,.bool false,.int .i64 0,.int .i64 0,.int .i64 0,.bool false,.int .i64 0,.int .i64 0,.int .i64 0,.bool false,.int .i64 0,.int .i64 0,.int .i64 0,.bool false,.int .i64 0,.int .i64 0,.int .i64 0,.bool false,.int .i64 0,.int .i64 0,.int .i64 0,.bool false,.int .i64 0,.int .i64 0,.int .i64 0,.bool false,.int .i64 0,.int .i64 0,.int .i64 0,.bool false,.int .i64 0,.int .i64 0,.int .i64 0,.bool false,.int .i64 0,.int .i64 0,.int .i64 0,.bool false] 520)))
 have B2:=kp (below_setRow (B1.out.alloc B1.out.size (.cells #[.int .i64 0,.int .i64 0,.int .i64 0,.bool false,.int .i64 0,.int .i64 0,.int .i64 0,.bool false,.int .i64 0,.int .i64 0,.int .i64 0,.bool false,.int .i64 0,.int .i64 0,.int .i64 0,.bool false,.int .i64 0,.int .i64 0,.int .i64 0,.bool false,.int .i64 0,.int .i64 0,.int .i64 0,.bool false,.int .i64 0,.int .i64 0,.int .i64 0,.bool false,.int .i64 0,.int .i64 0,.int .i64 0,.bool false,.int .i64 0,.int .i64 0,.int .i64 0,.bool false,.int .i64 0,.int .i64 0,.int .i64 0,.bool false,.int .i64 0,.int .i64 0,.int .i64 0,.bool false,.int .i64 0,.int .i64 0,.int .i64 0,.bool false,.int .i64 0,.int .i64 0,.int .i64 0,.bool false] 520)) (g:=w1.heap.size) B1.out.size ruleArr);generalize hg:w1.heap.size=g at *;generalize (w1.alloc (.cells #[.int .i64 0,.int .i64 0,.int .i64 0,.bool false,.int .i64 0,.int .i64 0,.int .i64 0,.bool false,.int .i64 0,.int .i64 0,.int .i64 0,.bool false,.int .i64 0,.int .i64 0,.int .i64 0,.bool false,.int .i64 0,.int .i64 0,.int .i64 0,.bool false,.int .i64 0,.int .i64 0,.int .i64 0,.bool false,.int .i64 0,.int .i64 0,.int .i64 0,.bool false,.int .i64 0,.int .i64 0,.int .i64 0,.bool false,.int .i64 0,.int .i64 0,.int .i64 0,.bool false,.int .i64 0,.int .i64 0,.int .i64 0,.bool false,.int .i64 0,.int .i64 0,.int .i64 0,.bool false,.int .i64 0,.int .i64 0,.int .i64 0,.bool false,.int .i64 0,.int .i64 0,.int .i64 0,.bool false] 520)).setRow g ruleArr=w2 at *
 clear hg;obtain ⟨r0,r1,r2,r3,rf⟩:=Bk.c4 R2.out;generalize Value.agg ruleArr=agg at *
 by_cases ho:0<=op/\op<=12
 ·have HK:=kp (show ruleK op=true from decide_eq_true ho);obtain ⟨a0,a1,a2,a3⟩:=rule_cells AB.out op ho;obtain ⟨ha,hb⟩:=ho;have hb1:¬ op < 0:=by omega
  have hb2:decide ((13:Int)<=op)=false:=dfq (by omega);clear AB;go_wp2_with fail
  exact rule_ret (w:=set4' w2 w.heap.size _ _ _ _) Tryz.results308 (set4'_at R2.out _ _ _ _) rfl rfl ⟨by rw [HK.out],set4'_below B2.out nlq _ _ _ _⟩
 ·have HK:=kp (show ruleK op=false from dfq ho);have HR:=kp (show ruleL op=(0,0,0) by unfold ruleL;rw [if_neg (by omega),if_neg (by omega),if_neg (by omega),if_neg (by omega),if_neg (by omega),if_neg (by omega),if_neg (by omega),if_neg (by omega)]);clear AB
  by_cases h0:op < 0
  ·go_wp2_with fail
   exact rule_ret (w:=set4' w2 w.heap.size _ _ _ _) Tryz.results308 (set4'_at R2.out _ _ _ _) rfl rfl ⟨by rw [HK.out,HR.out],set4'_below B2.out nlq _ _ _ _⟩
  ·have hb1:=dfq h0;have hb2:(13:Int)<=op:=by omega
   go_wp2_with fail
   exact rule_ret (w:=set4' w2 w.heap.size _ _ _ _) Tryz.results308 (set4'_at R2.out _ _ _ _) rfl rfl ⟨by rw [HK.out,HR.out],set4'_below B2.out nlq _ _ _ _⟩
end El
end Go.Proofs.YtmcbolkpbklfeaaGreatDoor
