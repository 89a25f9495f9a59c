/- The walk of the law NumSums: it answers true whatever the numbers. -/
import Derived.Test.YtdgbgchcomikoaaDoorNumBack
import Derived.Test.YtdgbgchcomikoaaDoorOwn
namespace Go.Proofs.YtdgbgchcomikoaaDoor
open Go.RowKit

set_option maxHeartbeats 400000 in
theorem numSums_long (n : Nat) (A : Option Addr) (cap : Nat) (most : Int) (hl : 200 < n) (hm : n ≤ 9223372036854775807) (w : World) (ht : TabOk w) :
    Calls Tryd.prog 4 #[.slice A n cap, .int .i64 most] w fun e w' => e = .returned (.bool true) ∧ Below w.heap.size w w' := by
  have T_w := Lib.hid ht
  clear ht
  have B_w := Lib.hid (Below.refl w.heap.size w)
  go_enter Tryd.func4, Tryd.ntmps4
  go_wp2_with fail
  refine (wakes01 w T_w.out).mono ?_
  rintro e w1 ⟨rfl, hb_w1⟩
  have T_w1 := Lib.hid (T_w.out.on hb_w1)
  have B_w1 := Lib.hid (B_w.out.trans (hb_w1.mono B_w.out.size))
  clear hb_w1
  go_wp2_with fail
  go_ret
  exact ⟨rfl, B_w1.out⟩

/-- the numbers turned about, without the last ones yet -/
def turnedTo (zs : List Int) (k : Nat) : List Int := ((zs.take k).map fun x => -x).reverse
theorem turned_next {zs : List Int} {k : Nat} (hk : k < zs.length) : turnedTo zs (k + 1) = (-(zs.getD k 0)) :: turnedTo zs k := by
  unfold turnedTo; rw [take_getD hk]; simp
theorem turned_len {zs : List Int} {k : Nat} (hk : k ≤ zs.length) : (turnedTo zs k).length = k := by
  unfold turnedTo; simp; omega

/-- what has come of the loop -/
structure SumsAt (w : World) (zs : List Int) (k : Nat) (v : Value) (wr : World) : Prop where
  v : ∃ A cap, v = .slice A k cap ∧ Cells wr A ((turnedTo zs k).map (Value.int .i64))
  m : ∀ x ∈ zs.take k, mayB x = true
  b : Below w.heap.size w wr

set_option maxHeartbeats 3200000 in
theorem numSums_walk (zs : List Int) (b o cap : Nat) (most : Int) (hz : ∀ x ∈ zs, I64 x) (hl : zs.length ≤ 200) (hcap : zs.length ≤ cap) (hc63 : cap ≤ 9223372036854775807) (w : World) (hbw : b < w.heap.size) (ht : TabOk w)
    (hc : ∀ j, j < zs.length → w.cell? ⟨b, o + j, none⟩ = some (.int .i64 (zs.getD j 0))) :
    Calls Tryd.prog 4 #[.slice (some ⟨b, o, none⟩) zs.length cap, .int .i64 most] w fun e w' => e = .returned (.bool true) ∧ Below w.heap.size w w' := by
  have T_w := Lib.hid ht
  have HZ := Lib.hid hz
  have HC := Lib.hid hc
  obtain ⟨i0, hi, hz0, hz1, hz2⟩ := info_parts info_int
  clear ht hz hc
  have B_w := Lib.hid (Below.refl w.heap.size w)
  go_enter Tryd.func4, Tryd.ntmps4
  go_wp2_with fail
  go_loopw [5, 19] (fun v i wr => ∃ k : Nat, k ≤ zs.length ∧ i = .int .i64 k ∧ SumsAt w zs k v wr) (fun _ i _ => zs.length - (intOf i).toNat)
  case atStart => exact ⟨0, Nat.zero_le _, rfl, ⟨none, 0, rfl, .inl rfl⟩, by simp, B_w.out⟩
  case round =>
    obtain ⟨k, hk, rfl, ⟨A, cp, rfl, hA⟩, hmay, hb⟩ := hrel
    have B_wr := Lib.hid hb
    have T_wr := Lib.hid (T_w.out.on hb)
    have HA := Lib.hid hA
    have HM := Lib.hid hmay
    clear hA hmay
    by_cases hlt : k < zs.length
    · have hcl : wr.cell? ⟨b, o + k, none⟩ = some (.int .i64 (zs.getD k 0)) := by
        rw [hb.cell (p := ⟨b, o + k, none⟩) hbw]; exact HC.out k hlt
      have hx : I64 (zs.getD k 0) := HZ.out _ (by rw [List.getD_eq_getElem?_getD, List.getElem?_eq_getElem hlt]; simp)
      have HT := Lib.hid (take_getD hlt)
      have HN := Lib.hid (turned_next hlt)
      clear hb
      generalize zs.getD k 0 = x at *
      go_wp2_with fail
      refine (may_any x hx _).mono ?_
      rintro e w' ⟨rfl, rfl⟩
      cases hmx : mayB x with
      | false =>
        go_wp2_with fail
        refine (wakes01 wr T_wr.out).mono ?_
        rintro e w1 ⟨rfl, hb_w1⟩
        have T_w1 := Lib.hid (T_wr.out.on hb_w1)
        have B_w1 := Lib.hid (B_wr.out.trans (hb_w1.mono B_wr.out.size))
        clear hb_w1
        go_wp2_with fail
        go_ret
        exact ⟨rfl, B_w1.out⟩
      | true =>
        have HX := Lib.hid hmx
        have hb2 := mayB_iff.1 hmx
        obtain ⟨hx0, hx1⟩ := hb2
        clear hmx hx
        go_wp2_with (at_builtin; refine wpList_append_cells rfl (.tmp 34) (.tmp 35) _ rfl wr.heap.size 3 i0 (.int .i64 0) 8 Tryd.underlying30 hi hz0 hz1 hz2 rfl _ 1 [.int .i64 (-x)] rfl ?c1 A k cp ((turnedTo zs k).map (Value.int .i64)) rfl ?c2 ?c3 ?c4 ?c5 ?c6 ?c7 ?c8)
        case c1 => exact World.ownsRow_lit wr #[.int .i64 (-x)] 1 (Nat.le_refl _) (by decide) rfl
        case c2 => rw [List.length_map, turned_len hk]
        case c3 => exact HA.out.on ((Below.refl _ _).alloc (Nat.le_refl _) _)
        case c4 => intro u hu; obtain ⟨y, _, rfl⟩ := List.mem_map.1 hu; rfl
        case c5 => unfold maxLen; omega
        case c6 => omega
        case c7 => simp
        intro v' w1 hown hgr
        have hgo : ∃ A' cp', v' = .slice A' (k + 1) cp' ∧ Cells w1 A' ((turnedTo zs (k + 1)).map (Value.int .i64)) := by
          obtain ⟨g, cp', hv, _, _⟩ := owned_open hown (by omega)
          refine ⟨some ⟨g, 0, none⟩, cp', by rw [hv, Nat.add_comm], ?_⟩
          rw [hv] at hown
          rw [HN.out]; exact Cells.own hown
        have HG := Lib.hid hgo
        have B_w1 := Lib.hid (B_wr.out.trans ((show Below wr.heap.size wr w1 from ((Below.refl _ _).alloc (Nat.le_refl _) _).grown hgr (by simp) (by intro j hj; simp [Value.ownBlock] at hj; omega)).mono B_wr.out.size))
        clear hgo hown hgr
        go_wp2_with fail
        go_roundw
        case rel =>
          refine ⟨k + 1, by omega, by go_num, HG.out, ?_, ?_⟩
          · intro y hy
            rw [HT.out] at hy
            rcases List.mem_append.1 hy with h1 | h1
            · exact HM.out y h1
            · simp at h1; rw [h1]; exact HX.out
          · exact B_w1.out
        case measure => simp [intOf]; omega
    · obtain rfl : k = zs.length := by omega
      have HC2 := Lib.hid (show ∀ j, j < zs.length → wr.cell? ⟨b, o + j, none⟩ = some (.int .i64 (zs.getD j 0)) from fun j hj => by
        rw [hb.cell (p := ⟨b, o + j, none⟩) hbw]; exact HC.out j hj)
      have e1 : (zs.map fun x => -x).reverse = turnedTo zs zs.length := by unfold turnedTo; rw [List.take_length]
      have hs2 := sum_turned zs most
      rw [e1] at hs2
      have h2 := fun W (hW : Cells W A ((turnedTo zs zs.length).map (Value.int .i64))) => sum_all (turnedTo zs zs.length) most (by
        intro y hy
        rw [← e1] at hy
        simp only [List.mem_reverse, List.mem_map] at hy
        obtain ⟨x, hx, rfl⟩ := hy
        have := mayB_iff.1 (HM.out x (by rw [List.take_length]; exact hx))
        exact ⟨by omega, by omega⟩) (by rw [turned_len (Nat.le_refl _)]; omega) A cp W hW
      rw [turned_len (Nat.le_refl _), hs2.1, hs2.2] at h2
      have h1 := sum_any zs most HZ.out (by omega) b o cap wr HC2.out
      have h3 := sum_any (zs.take (zs.length / 2)) most (fun x hx => HZ.out x (List.mem_of_mem_take hx)) (by simp; omega) b o cap wr (fun j hj => by
        rw [List.length_take] at hj
        rw [HC2.out j (by omega), List.getD_eq_getElem?_getD, List.getD_eq_getElem?_getD, List.getElem?_take, if_pos (by omega)])
      rw [show (zs.take (zs.length / 2)).length = zs.length / 2 by rw [List.length_take]; omega] at h3
      have hlen := total_nonneg zs
      cases hok : sumOk zs most with
      | true =>
        have hy := sum_yes hok
        have hp := sumOk_part (zs.length / 2) hok
        have hq := sum_yes hp.1
        have hle := hp.2
        rw [hy.1, hy.2] at h1 h2
        rw [hq.1, hq.2] at h3
        generalize total zs = n at *
        generalize total (zs.take (zs.length / 2)) = m at *
        have H1 := Lib.hid h1
        have H2 := Lib.hid (h2 wr HA.out)
        have H3 := Lib.hid h3
        clear h1 h2 h3 hy hp hq e1 hs2 hok
        go_wp2_with fail
        refine (H1.out).mono ?_
        rintro e w' ⟨rfl, rfl⟩
        go_wp2_with fail
        refine (H2.out).mono ?_
        rintro e w' ⟨rfl, rfl⟩
        go_wp2_with fail
        refine (H3.out).mono ?_
        rintro e w' ⟨rfl, rfl⟩
        go_wp2_with fail
        refine (wakes01 wr T_wr.out).mono ?_
        rintro e w1 ⟨rfl, hb_w1⟩
        have T_w1 := Lib.hid (T_wr.out.on hb_w1)
        have B_w1 := Lib.hid (B_wr.out.trans (hb_w1.mono B_wr.out.size))
        clear hb_w1
        go_wp2_with fail
        go_ret
        exact ⟨rfl, B_w1.out⟩
      | false =>
        have hy := sum_no hok
        rw [hy.1, hy.2] at h1 h2
        generalize sumV (zs.take (zs.length / 2)) most = m at *
        generalize sumB (zs.take (zs.length / 2)) most = q at *
        have H1 := Lib.hid h1
        have H2 := Lib.hid (h2 wr HA.out)
        have H3 := Lib.hid h3
        clear h1 h2 h3 hy e1 hs2 hok
        go_wp2_with fail
        refine (H1.out).mono ?_
        rintro e w' ⟨rfl, rfl⟩
        go_wp2_with fail
        refine (H2.out).mono ?_
        rintro e w' ⟨rfl, rfl⟩
        go_wp2_with fail
        refine (H3.out).mono ?_
        rintro e w' ⟨rfl, rfl⟩
        go_wp2_with fail
        refine (wakes01 wr T_wr.out).mono ?_
        rintro e w1 ⟨rfl, hb_w1⟩
        have T_w1 := Lib.hid (T_wr.out.on hb_w1)
        have B_w1 := Lib.hid (B_wr.out.trans (hb_w1.mono B_wr.out.size))
        clear hb_w1
        go_wp2_with fail
        go_ret
        exact ⟨rfl, B_w1.out⟩

set_option maxHeartbeats 400000 in
theorem numSums_empty (A : Option Addr) (cap : Nat) (most : Int) (w : World) (ht : TabOk w) :
    Calls Tryd.prog 4 #[.slice A 0 cap, .int .i64 most] w fun e w' => e = .returned (.bool true) ∧ Below w.heap.size w w' := by
  have T_w := Lib.hid ht
  clear ht
  have B_w := Lib.hid (Below.refl w.heap.size w)
  have h1 := fun (A : Option Addr) (cap : Nat) => sum_empty A most cap w
  have e : sumV [] most = 0 ∧ sumB [] most = true := by
    have := sum_yes (l := []) (most := most) (by simp [sumOk, total]; exact within0_nonneg most)
    rw [this.1, this.2]; exact ⟨rfl, rfl⟩
  rw [e.1, e.2] at h1
  have H1 := Lib.hid h1
  clear h1 e
  go_enter Tryd.func4, Tryd.ntmps4
  go_wp2_with fail
  go_loop [5, 19] (fun v i => i = .int .i64 0 ∧ v = .slice none 0 0) (fun _ _ => 0)
  case atStart => exact ⟨rfl, rfl⟩
  case round =>
    obtain ⟨rfl, rfl⟩ := hrel
    go_wp2_with fail
    refine (H1.out _ _).mono ?_
    rintro e w' ⟨rfl, rfl⟩
    go_wp2_with fail
    refine (H1.out _ _).mono ?_
    rintro e w' ⟨rfl, rfl⟩
    go_wp2_with fail
    refine (H1.out _ _).mono ?_
    rintro e w' ⟨rfl, rfl⟩
    go_wp2_with fail
    refine (wakes01 w T_w.out).mono ?_
    rintro e w1 ⟨rfl, hb_w1⟩
    have T_w1 := Lib.hid (T_w.out.on hb_w1)
    have B_w1 := Lib.hid (B_w.out.trans (hb_w1.mono B_w.out.size))
    clear hb_w1
    go_wp2_with fail
    go_ret
    exact ⟨rfl, B_w1.out⟩

/-- the law, at whatever numbers -/
theorem numSums_all (zs : List Int) (A : Option Addr) (cap : Nat) (most : Int) (w : World) (hc : Cells w A (zs.map (Value.int .i64))) (hz : ∀ x ∈ zs, I64 x) (hl : zs.length ≤ cap) (hc63 : cap ≤ 9223372036854775807) (_hm : I64 most) (ht : TabOk w) :
    Calls Tryd.prog 4 #[.slice A zs.length cap, .int .i64 most] w fun e w' => e = .returned (.bool true) ∧ Below w.heap.size w w' := by
  by_cases h : zs.length ≤ 200
  · rcases hc with h0 | ⟨b, o, rfl, hb, hc⟩
    · have h1 : zs = [] := List.map_eq_nil_iff.1 h0
      subst h1; exact numSums_empty A cap most w ht
    · exact numSums_walk zs b o cap most hz h hl hc63 w hb ht (fun j hj => hc j _ (by rw [List.getElem?_map, List.getD_eq_getElem?_getD, List.getElem?_eq_getElem hj]; rfl))
  · exact numSums_long zs.length A cap most (by omega) (by omega) w ht
end Go.Proofs.YtdgbgchcomikoaaDoor
