import Derived.Test.YtfcmpfaonpnbaaaGreatDoorMf
import Derived.Test.YtfcmpfaonpnbaaaGreatDoorMl
/- merged by wip/merge.py from: Great9 -/
/- The statements' own bounds on worlds. -/
namespace Go.Proofs.YtfcmpfaonpnbaaaGreatDoor.Gr
open Go.RowKit Go.Proofs.YtfcmpfaonpnbaaaGreatDoor.Dt Go.Proofs.YtfcmpfaonpnbaaaGreatDoor.Sg

def SmallW (x : Wrld) : Prop := x.sizes.length ≤ 10 ∧ x.funs.length ≤ 20
set_option maxRecDepth 100000 in
set_option maxHeartbeats 3200000 in
theorem great9_any {w : World} {A1 A2 : Option Addr} {c1 c2 : Nat} {x : Wrld} (h : WrldAt w A1 c1 A2 c2 x) :
    Calls Tryz.prog 5 #[.agg #[.slice A1 x.sizes.length c1, .slice A2 x.funs.length c2]] w fun e w' => GreatPost (SmallW x) e ∧ Below w.heap.size w w' := by
  have HFv := Lib.hid (fun W (hW : Below w.heap.size w W) k v (hv : x.funs[k]? = some v) => Vl.funval_cells h.funs hW hv)
  have HY := Lib.hid (great_yes (P := SmallW x))
  have HN := Lib.hid (fun b (h : SmallW x) => great_no (P := SmallW x) b h)
  have HSm := Lib.hid (show (x.sizes.length ≤ 10 ∧ x.funs.length ≤ 20) → SmallW x from id)
  have B0 := Lib.hid ((Below.refl w.heap.size w).alloc (Nat.le_refl _) (.cells #[.slice A1 x.sizes.length c1, .slice A2 x.funs.length c2] 30))
  have hg1 : (w.alloc (.cells #[.slice A1 x.sizes.length c1, .slice A2 x.funs.length c2] 30)).cell? ⟨w.heap.size, 1, none⟩ = some (.slice A2 x.funs.length c2) := by rw [World.cell?_alloc_mark]; rfl
  clear h
  generalize hn1 : x.sizes.length = n1 at *
  generalize hn2 : x.funs.length = n2 at *
  by_cases h1 : (10 : Int) < (n1 : Int)
  · have h1' := decide_eq_true h1
    go_enter Tryz.func5, Tryz.ntmps5
    go_wp2_with fail
    go_ret
    exact ⟨HY.out, B0.out⟩
  · have h1' := decide_eq_false h1
    by_cases h2 : (20 : Int) < (n2 : Int)
    · have h2' := decide_eq_true h2
      go_enter Tryz.func5, Tryz.ntmps5
      go_wp2_with fail
      go_ret
      exact ⟨HY.out, B0.out⟩
    · have h2' := decide_eq_false h2
      have HS := Lib.hid (HN.out false (HSm.out ⟨by omega, by omega⟩))
      go_enter Tryz.func5, Tryz.ntmps5
      go_wp2_with fail
      generalize w.alloc (.cells #[.slice A1 n1 c1, .slice A2 n2 c2] 30) = w1 at *
      go_loop [3] (fun i => ∃ k : Nat, k ≤ n2 ∧ i = .int .i64 k) (fun i => n2 - (intOf i).toNat)
      case atStart => exact ⟨0, by omega, rfl⟩
      case round =>
        obtain ⟨k, hk, rfl⟩ := hrel
        by_cases hlt : k < n2
        · have hlt2 : (k : Int) < (n2 : Int) := by omega
          obtain ⟨v, hv⟩ : ∃ v, x.funs[k]? = some v := ⟨_, List.getElem?_eq_getElem (by omega)⟩
          obtain ⟨b, o, Ar, cr, rfl, hbl, e0, e1, _, _, hrb, _⟩ := HFv.out w1 B0.out k v hv
          clear hv
          by_cases hp : (420 : Int) < (v.rows.length : Int)
          · have hp' := decide_eq_true hp
            go_wp2_with fail
            go_ret
            exact ⟨HY.out, B0.out⟩
          · have hp' := decide_eq_false hp
            go_wp2_with fail
            go_round
            case rel => exact ⟨k + 1, by omega, by go_num⟩
            case measure => simp [intOf]; omega
        · obtain rfl : k = n2 := by omega
          go_wp2_with fail
          go_ret
          exact ⟨HS.out, B0.out⟩
end Go.Proofs.YtfcmpfaonpnbaaaGreatDoor.Gr
