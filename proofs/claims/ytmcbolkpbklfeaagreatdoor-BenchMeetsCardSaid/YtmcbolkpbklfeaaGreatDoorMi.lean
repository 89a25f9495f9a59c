import Derived.Test.YtmcbolkpbklfeaaGreatDoorShort
import Derived.Test.YtmcbolkpbklfeaaGreatDoorMe
import Derived.Deep.RegionWith
import Derived.Test.YtmcbolkpbklfeaaGreatDoorMf
/- merged by wip/merge.py from: SigFree SigMac SigCheckS -/
set_option maxRecDepth 100000
set_option maxHeartbeats 51200000
namespace Go.Proofs.YtmcbolkpbklfeaaGreatDoor
namespace Sg
open Go.RowKit Dt
theorem three_cells {w w':World} {b:Nat} {u0 u1 u2:Value} (hb:Below w.heap.size w w') (hlt:b < w.heap.size) (p0:w.cell? ⟨b,0,none⟩=some u0) (p1:w.cell? ⟨b,1,none⟩=some u1) (p2:w.cell? ⟨b,2,none⟩=some u2) :
  w'.cell? ⟨b,0,none⟩=some u0/\w'.cell? ⟨b,1,none⟩=some u1/\w'.cell? ⟨b,2,none⟩=some u2 :=
 ⟨((bcell hb).1 b 0 hlt).trans p0,((bcell hb).1 b 1 hlt).trans p1,((bcell hb).1 b 2 hlt).trans p2⟩
theorem ret_int {a b:Int} (h:a=b):Ending.returned (.int .i64 a)=.returned (.int .i64 b):=by rw [h]
def paramB (n:Nat) (ps:List Param) (i:Nat):Bool:=match ps[i]? with
 | none=>true
 | some p=>usableB (Lx.bs p.name) && thereB n p.sort && !hasB ((ps.map Param.name).take i) p.name
def paramsTo (n:Nat) (ps:List Param) (k:Nat):Bool:=(List.range k).all (paramB n ps)
def macroB (n:Nat) (m:Macro):Bool:=decide (m.params.length<=3) && thereB n m.res && m.body.may && paramsTo n m.params m.params.length
theorem paramsTo_succ (n:Nat) (ps:List Param) (k:Nat):paramsTo n ps (k+1)=(paramsTo n ps k && paramB n ps k):=by unfold paramsTo;rw [List.range_succ,List.all_append];simp
theorem paramsTo_stop {n:Nat} {ps:List Param} {k:Nat} (hk:k < ps.length) (h:paramB n ps k=false):paramsTo n ps ps.length=false:=by
 unfold paramsTo;rw [List.all_eq_false];exact⟨k,List.mem_range.2 hk,by rw [h];simp⟩
theorem paramB_at {n:Nat} {ps:List Param} {k:Nat} {p:Param} (h:ps[k]?=some p):paramB n ps k=(Lx.mayB (Lx.bs p.name) && !Lx.resB (Lx.bs p.name) && thereB n p.sort && !hasB ((ps.map Param.name).take k) p.name):=by unfold paramB;rw [h];rfl
theorem mac_cells (w:World) (a b c d e f:Value) (t:TypeId):(w.alloc (.cells #[a,b,c,d,e,f] t)).cell? ⟨w.heap.size,1,none⟩=some b/\(w.alloc (.cells #[a,b,c,d,e,f] t)).cell? ⟨w.heap.size,2,none⟩=some c/\(w.alloc (.cells #[a,b,c,d,e,f] t)).cell? ⟨w.heap.size,3,none⟩=some d/\(w.alloc (.cells #[a,b,c,d,e,f] t)).cell? ⟨w.heap.size,4,none⟩=some e/\(w.alloc (.cells #[a,b,c,d,e,f] t)).cell? ⟨w.heap.size,5,none⟩=some f:=by
 refine⟨?_,?_,?_,?_,?_⟩ <;> rw [World.cell?_alloc_mark] <;> rfl
structure Boxes (w:World) (b:Nat) (u0 u1 u2 m1 m2 m3 m4 m5:Value):Prop where
 lt:b+1 < w.heap.size
 u0:w.cell? ⟨b,0,none⟩=some u0
 u1:w.cell? ⟨b,1,none⟩=some u1
 u2:w.cell? ⟨b,2,none⟩=some u2
 m1:w.cell? ⟨b+1,1,none⟩=some m1
 m2:w.cell? ⟨b+1,2,none⟩=some m2
 m3:w.cell? ⟨b+1,3,none⟩=some m3
 m4:w.cell? ⟨b+1,4,none⟩=some m4
 m5:w.cell? ⟨b+1,5,none⟩=some m5
theorem Boxes.on {w w':World} {b:Nat} {u0 u1 u2 m1 m2 m3 m4 m5:Value} (h:Boxes w b u0 u1 u2 m1 m2 m3 m4 m5) (hb:Below w.heap.size w w'):Boxes w' b u0 u1 u2 m1 m2 m3 m4 m5:=by
 have l0:b < w.heap.size:=by have:=h.lt;omega
 exact⟨Nat.lt_of_lt_of_le h.lt hb.size,((bcell hb).1 b 0 l0).trans h.u0,((bcell hb).1 b 1 l0).trans h.u1,((bcell hb).1 b 2 l0).trans h.u2,((bcell hb).1 (b+1) 1 h.lt).trans h.m1,((bcell hb).1 (b+1) 2 h.lt).trans h.m2,((bcell hb).1 (b+1) 3 h.lt).trans h.m3,((bcell hb).1 (b+1) 4 h.lt).trans h.m4,((bcell hb).1 (b+1) 5 h.lt).trans h.m5⟩
theorem boxes_made (w:World) (u0 u1 u2 m0 m1 m2 m3 m4 m5:Value) (t t':TypeId):Boxes ((w.alloc (.cells #[u0,u1,u2] t)).alloc (.cells #[m0,m1,m2,m3,m4,m5] t')) w.heap.size u0 u1 u2 m1 m2 m3 m4 m5:=by
 obtain ⟨g0,g1,g2⟩:=sig_cells w u0 u1 u2 t;obtain ⟨k1,k2,k3,k4,k5⟩:=mac_cells (w.alloc (.cells #[u0,u1,u2] t)) m0 m1 m2 m3 m4 m5 t';have hz:(w.alloc (.cells #[u0,u1,u2] t)).heap.size=w.heap.size+1:=by simp
 have hb:=(Below.refl (w.alloc (.cells #[u0,u1,u2] t)).heap.size (w.alloc (.cells #[u0,u1,u2] t))).alloc nlq (.cells #[m0,m1,m2,m3,m4,m5] t');have e:=fun o=>(bcell hb).1 w.heap.size o (by omega);rw [hz] at k1 k2 k3 k4 k5;exact⟨by simp,(e 0).trans g0,(e 1).trans g1,(e 2).trans g2,k1,k2,k3,k4,k5⟩
def allTo (p:Nat->Bool) (k:Nat):Bool:=(List.range k).all p
theorem allTo_zero (p:Nat->Bool):allTo p 0=true:=rfl
theorem allTo_succ (p:Nat->Bool) (k:Nat):allTo p (k+1)=(allTo p k && p k):=by unfold allTo;rw [List.range_succ,List.all_append];simp
def sortOk (l:List ByteArray) (i:Nat):Bool:=match l[i]? with
 | none=>true
 | some s=>usableB (Lx.bs s) && !hasB (allSorts (l.take i)) s
def funOk (g:Sig) (i:Nat):Bool:=match g.funs[i]? with
 | none=>true
 | some f=>usableB (Lx.bs f.name) && !(hasB ((g.funs.map Fun4.name).take i) f.name || coreB (Lx.bs f.name)) && funB g.sorts.length f
def macOk (g:Sig) (i:Nat):Bool:=match g.macros[i]? with
 | none=>true
 | some m=>usableB (Lx.bs m.name) && !(hasB (g.funs.map Fun4.name) m.name || hasB ((g.macros.map Macro.name).take i) m.name || coreB (Lx.bs m.name)) && macroB g.sorts.length m
def checkB (g:Sig):Bool :=
 (decide (g.sorts.length<=4) && decide (g.funs.length<=12) && decide (g.macros.length<=12)) && (allTo (sortOk g.sorts) g.sorts.length && allTo (funOk g) g.funs.length && allTo (macOk g) g.macros.length)
def checkE (g:Sig):Int:=if checkB g then 0 else 2
theorem checkE_true {g:Sig} (h:checkB g=true):checkE g=0:=by unfold checkE;rw [h];rfl
theorem checkE_false {g:Sig} (h:checkB g=false):checkE g=2:=by unfold checkE;rw [h];rfl
end Sg
end Go.Proofs.YtmcbolkpbklfeaaGreatDoor
