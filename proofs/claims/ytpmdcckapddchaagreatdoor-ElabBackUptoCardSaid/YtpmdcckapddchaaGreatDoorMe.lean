import Derived.Test.YtpmdcckapddchaaGreatDoorShort
import Derived.Test.YtpmdcckapddchaaGreatDoorMd
import Derived.Test.YtpmdcckapddchaaGreatDoorMb
/- merged by wip/merge.py from: Law7Blk -/
set_option maxRecDepth 100000
set_option maxHeartbeats 51200000
namespace Go.Proofs.YtpmdcckapddchaaGreatDoor
namespace El
open Go.RowKit Dt Sg
theorem lies_blk {α β:Type} {n:Nat} {R:World->List Value->β->Prop} {w:World} {b:Nat} {t:TypeId} {fr:Nat × Nat} {val:α->List Value} {f:α->β} {L:List Value} (ys:List α) (h:w.heap[b]?=some (.cells L.toArray t fr)) (hL:flatV val ys <+: L) (hv:∀ y,(val y).length=n) (hR:∀ y ∈ ys,R w (val y) (f y)) :
  Lies n R w (some ⟨b,0,none⟩) (ys.map f):=by
 refine .inr ⟨b,0,rfl,lt_of_block h,fun i x hx=>?_⟩;rw [List.getElem?_map] at hx
 cases hy:ys[i]? with
 | none=>rw [hy] at hx;cases hx
 | some y =>
  rw [hy] at hx;obtain rfl:f y=x:=by simpa using hx
  refine⟨val y,hv y,fun j u hu=>?_,hR y (mgq hy)⟩;have h1:=flatV_at hv ys i y hy j u hu;obtain ⟨r,hr⟩:=hL;rw [Nat.zero_add,cell_of_row w b (i * n+j) L.toArray t fr h,List.getElem?_toArray,← hr,List.getElem?_append_left (gqs h1).1];exact h1
end El
end Go.Proofs.YtpmdcckapddchaaGreatDoor
