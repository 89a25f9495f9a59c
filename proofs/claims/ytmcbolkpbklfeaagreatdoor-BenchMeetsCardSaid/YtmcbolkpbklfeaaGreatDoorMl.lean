import Derived.Test.YtmcbolkpbklfeaaGreatDoorShort
import Derived.Test.YtmcbolkpbklfeaaGreatDoorMi
import Derived.Test.YtmcbolkpbklfeaaGreatDoorMd
/- merged by wip/merge.py from: SigChkA -/
set_option maxRecDepth 100000
set_option maxHeartbeats 51200000
namespace Go.Proofs.YtmcbolkpbklfeaaGreatDoor
namespace Sg
open Go.RowKit Dt
structure RC (g:Sig) (w:World) (u0 u1 u2:Value) (wr:World) (v1 v2 v3:Value) (k1 k2 k3:Nat):Prop where
 keep:Below w.heap.size w wr
 g0:wr.cell? ⟨w.heap.size,0,none⟩=some u0
 g1:wr.cell? ⟨w.heap.size,1,none⟩=some u1
 g2:wr.cell? ⟨w.heap.size,2,none⟩=some u2
 ob:wr.heap[w.heap.size+1]?=some (.cells #[v1,v2,v3] 93 (0,0))
 r1:Grows 1 StrR 9 w (w.heap.size+2) wr v1 (g.sorts.take k1)
 r2:Grows 6 FunR 194 w (w.heap.size+2) wr v2 (g.funs.take k2)
 r3:Grows 6 MacroR 198 w (w.heap.size+2) wr v3 (g.macros.take k3)
 d12:∀ k,v1.ownBlock=some k->v2.ownBlock≠some k
 d13:∀ k,v1.ownBlock=some k->v3.ownBlock≠some k
 d23:∀ k,v2.ownBlock=some k->v3.ownBlock≠some k
section
variable {g:Sig} {w wr w':World} {u0 u1 u2 v1 v2 v3:Value} {k1 k2 k3:Nat}
theorem RC.lt (h:RC g w u0 u1 u2 wr v1 v2 v3 k1 k2 k3):w.heap.size+1 < wr.heap.size:=lt_of_block h.ob
theorem RC.below (h:RC g w u0 u1 u2 wr v1 v2 v3 k1 k2 k3) (hb:Below wr.heap.size wr w'):RC g w u0 u1 u2 w' v1 v2 v3 k1 k2 k3:=by
 have l:=h.lt;have e:=fun o=>(bcell hb).1 w.heap.size o (by omega);exact⟨h.keep.trans (hb.mono h.keep.size),(e 0).trans h.g0,(e 1).trans h.g1,(e 2).trans h.g2,(hb.block _ l).trans h.ob,h.r1.below hb,h.r2.below hb,h.r3.below hb,h.d12,h.d13,h.d23⟩
theorem RC.drew (h:RC g w u0 u1 u2 wr v1 v2 v3 k1 k2 k3):RC g w u0 u1 u2 wr.drew v1 v2 v3 k1 k2 k3:=h.below (Below.refl _ _).drew
theorem RC.alloc (h:RC g w u0 u1 u2 wr v1 v2 v3 k1 k2 k3) (o:Obj):RC g w u0 u1 u2 (wr.alloc o) v1 v2 v3 k1 k2 k3:=h.below ((Below.refl _ _).alloc nlq o)
theorem RC.o (h:RC g w u0 u1 u2 wr v1 v2 v3 k1 k2 k3):wr.cell? ⟨w.heap.size+1,0,none⟩=some v1/\wr.cell? ⟨w.heap.size+1,1,none⟩=some v2/\wr.cell? ⟨w.heap.size+1,2,none⟩=some v3/\∀ j,wr.frozen? ⟨w.heap.size+1,j,none⟩=false :=
 ⟨by rw [cell_of_cells h.ob];rfl,by rw [cell_of_cells h.ob];rfl,by rw [cell_of_cells h.ob];rfl,fun j=>frozen_of_cells h.ob j⟩
theorem take_len {α:Type} {l:List α} {k:Nat} (h:k<=l.length):(l.take k).length=k:=by rw [List.length_take];omega
theorem RC.shape (h:RC g w u0 u1 u2 wr v1 v2 v3 k1 k2 k3) (h1:k1<=g.sorts.length) (h2:k2<=g.funs.length) (h3:k3<=g.macros.length) :
  (∃ A c,v1=.slice A k1 c/\k1<=c/\c<=maxLen)/\(∃ A c,v2=.slice A k2 c/\k2<=c/\c<=maxLen)/\(∃ A c,v3=.slice A k3 c/\k3<=c/\c<=maxLen):=by
 have a:=h.r1.shape;have b:=h.r2.shape;have c:=h.r3.shape;rw [take_len h1] at a;rw [take_len h2] at b;rw [take_len h3] at c;exact⟨a,b,c⟩
theorem RC.sig {A1 A2 A3:Option Addr} {c1 c2 c3:Nat} (h:RC g w u0 u1 u2 wr (.slice A1 k1 c1) (.slice A2 k2 c2) (.slice A3 k3 c3) k1 k2 k3) (h1:k1<=g.sorts.length) (h2:k2<=g.funs.length) (h3:k3<=g.macros.length) :
  SigAt wr A1 c1 A2 c2 A3 c3 ⟨g.sorts.take k1,g.funs.take k2,g.macros.take k3⟩:=by
 obtain ⟨⟨a,b,e1,p1,q1⟩,⟨a',b',e2,p2,q2⟩,⟨a'',b'',e3,p3,q3⟩⟩:=h.shape h1 h2 h3;simp only [Value.slice.injEq] at e1 e2 e3;have r1:=h.r1;have r2:=h.r2;have r3:=h.r3;have t1:=take_len h1;have t2:=take_len h2;have t3:=take_len h3;have x1:Value.slice A1 k1 c1=.slice A1 (g.sorts.take k1).length c1:=by rw [t1]
 have x2:Value.slice A2 k2 c2=.slice A2 (g.funs.take k2).length c2:=by rw [t2]
 have x3:Value.slice A3 k3 c3=.slice A3 (g.macros.take k3).length c3:=by rw [t3]
 rw [x1] at r1;rw [x2] at r2;rw [x3] at r3;exact⟨r1.lies StrR.lasts h.keep,r2.lies FunR.lasts h.keep,r3.lies MacroR.lasts h.keep,by rw [t1];omega,by rw [t2];omega,by rw [t3];omega,by omega,by omega,by omega⟩
theorem shape_of_owns {w:World} {B n s:Nat} {t:TypeId} {v:Value} {xs:List Value} (h:w.ownsRow B t s v n xs):∃ A c,v=.slice A n c:=by
 rcases h.2 with⟨rfl,rfl⟩ | ⟨g,cap,cur,rfl,_⟩
 ·exact⟨none,0,rfl⟩
 ·exact⟨_,cap,rfl⟩
theorem RC.frame {v v':Value} {j:Nat} (h:RC g w u0 u1 u2 wr v1 v2 v3 k1 k2 k3) (hg:wr.grownBy w' v.ownBlock) (hv:∀ k,v.ownBlock=some k->w.heap.size+2<=k) :
  Below w.heap.size w (w'.setCell ⟨w.heap.size+1,j,none⟩ v')/\(w'.setCell ⟨w.heap.size+1,j,none⟩ v').cell? ⟨w.heap.size,0,none⟩=some u0/\(w'.setCell ⟨w.heap.size+1,j,none⟩ v').cell? ⟨w.heap.size,1,none⟩=some u1/\(w'.setCell ⟨w.heap.size+1,j,none⟩ v').cell? ⟨w.heap.size,2,none⟩=some u2 /\
   (w'.setCell ⟨w.heap.size+1,j,none⟩ v').heap[w.heap.size+1]?=some (.cells ((#[v1,v2,v3]:Array Value).setIfInBounds j v') 93 (0,0)):=by
 have l:=h.lt;have hbk:∀ k,k < w.heap.size+2->some k≠v.ownBlock:=fun k hk e=>by have:=hv k e.symm;omega
 have hgb:(w'.setCell ⟨w.heap.size+1,j,none⟩ v').heap[w.heap.size]?=wr.heap[w.heap.size]?:=(Below.heap_setCell w' ⟨w.heap.size+1,j,none⟩ v' w.heap.size (by simp)).trans (hg.block _ (by omega) (hbk _ (by omega)));have e:=fun o=>World.cell?_of_block (w:=wr) (w':=w'.setCell ⟨w.heap.size+1,j,none⟩ v') (a:=⟨w.heap.size,o,none⟩) hgb;refine⟨?_,(e 0).trans h.g0,(e 1).trans h.g1,(e 2).trans h.g2,?_⟩
 ·exact(h.keep.grown hg h.keep.size (fun k hk=>by have:=hv k hk;omega)).setCell (by simp) _
 ·have:=(hg.block _ l (hbk _ (by omega))).trans h.ob;simp [World.setCell,Array.getElem?_modify,this]
theorem RC.grown {v:Value} (h:RC g w u0 u1 u2 wr v1 v2 v3 k1 k2 k3) (hg:wr.grownBy w' v.ownBlock) (hv:∀ k,v.ownBlock=some k->w.heap.size+2<=k) :
  w'.cell? ⟨w.heap.size+1,0,none⟩=some v1/\w'.cell? ⟨w.heap.size+1,1,none⟩=some v2/\w'.cell? ⟨w.heap.size+1,2,none⟩=some v3/\∀ j,w'.frozen? ⟨w.heap.size+1,j,none⟩=false:=by
 have e:=(hg.block _ h.lt (fun e=>by have:=hv _ e.symm;omega)).trans h.ob;exact⟨by rw [cell_of_cells e];rfl,by rw [cell_of_cells e];rfl,by rw [cell_of_cells e];rfl,fun j=>frozen_of_cells e j⟩
end
end Sg
end Go.Proofs.YtmcbolkpbklfeaaGreatDoor
