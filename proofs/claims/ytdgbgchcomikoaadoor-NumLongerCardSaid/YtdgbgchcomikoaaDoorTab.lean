/- strconv's table of powers of ten: that it holds its numbers, carried from world to world. -/
import Derived.Test.YtdgbgchcomikoaaDoorBase
import Derived.Test.YtdgbgchcomikoaaDoorShelf
import Derived.Lib.LaidTab
namespace Go.Proofs.YtdgbgchcomikoaaDoor
open Go.RowKit

/-- strconv's table holds its numbers -/
def TabOk (w : World) : Prop := Lib.TabIs Tryd.prog w "internal/strconv.uint64pow10" .u64 Lib.pow10Tab
theorem gTab : Tryd.prog.globalNamed "internal/strconv.uint64pow10" = some 0 := by kernel_rfl
theorem TabOk.keep {w w' : World} (h : TabOk w) (hk : w'.heap[0]? = w.heap[0]?) : TabOk w' := by
  unfold TabOk Lib.TabIs World.var? at *
  rw [gTab] at *
  simp only [Option.bind_some] at *
  rw [hk]; exact h
theorem TabOk.lt {w : World} (h : TabOk w) : 0 < w.heap.size := by
  unfold TabOk Lib.TabIs World.var? at h
  rw [gTab] at h
  simp only [Option.bind_some] at h
  rcases Nat.lt_or_ge 0 w.heap.size with h1 | h1
  · exact h1
  · rw [Array.getElem?_eq_none h1] at h; cases h
theorem TabOk.on {w w' : World} (h : TabOk w) (hb : Below w.heap.size w w') : TabOk w' := h.keep (hb.block _ h.lt)

theorem grow_below (w : World) (k : Nat) (os : Array Obj) : Below w.heap.size w (Go.Sort.grow (w.drewN k) os) :=
  ⟨rfl, rfl, rfl, by simp [Go.Sort.grow, World.drewN], fun i hi => by
    show (w.heap ++ os)[i]? = _
    rw [Array.getElem?_append_left hi]⟩

/-- Itoa, at every int -/
theorem itoa_any (n : Int) (hn : I64 n) (w : World) (ht : TabOk w) :
    Calls Tryd.prog 21 #[.int .i64 n] w fun e w' => e = .returned (.string ⟨(Lib.itoa n).toArray⟩) ∧ Below w.heap.size w w' :=
  (Tryd.strconv_Itoa n hn.1 hn.2 w ht).mono fun _ _ ⟨he, k, os, hw⟩ => ⟨he, by rw [hw]; exact grow_below w k os⟩
end Go.Proofs.YtdgbgchcomikoaaDoor
