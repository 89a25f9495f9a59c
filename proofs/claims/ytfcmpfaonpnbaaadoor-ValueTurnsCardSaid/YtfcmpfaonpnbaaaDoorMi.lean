import Derived.Test.YtfcmpfaonpnbaaaDoorMh
import Derived.OwnWalk
import Derived.Test.YtfcmpfaonpnbaaaDoorMf
/- merged by wip/merge.py from: ValIs -/
/- The program's value: what a sort's values are. -/
namespace Go.Proofs.YtfcmpfaonpnbaaaDoor.Vl
open Go.RowKit Go.Proofs.YtfcmpfaonpnbaaaDoor.Dt Go.Proofs.YtfcmpfaonpnbaaaDoor.Sg

def bitB (v : Int) : Bool := decide (v = 0 ∨ v = 1)
def ownB (n v : Int) : Bool := decide (0 ≤ v ∧ v < n)
set_option maxHeartbeats 800000 in
theorem kind1_any (v : Int) (hv : I64 v) (w : World) :
    Calls Tryd.prog 53 #[.int .i64 v] w fun e w' => e = .returned (.bool (bitB v)) ∧ w = w' := by
  have h1 := hv.lo
  have h2 := hv.hi
  clear hv
  go_enter Tryd.func53, Tryd.ntmps53
  go_wp2_with fail
  go_ret
  exact ⟨ret_bool (by rw [Bool.eq_iff_iff]; simp [bitB]; omega), rfl⟩
set_option maxHeartbeats 800000 in
theorem kind2_any (v n : Int) (b : Nat) (w : World) (hc : w.cell? ⟨b, 0, none⟩ = some (.int .i64 n)) :
    Calls Tryd.prog 54 #[.int .i64 v, .pointer (some ⟨b, 0, none⟩)] w fun e w' => e = .returned (.bool (ownB n v)) ∧ w = w' := by
  by_cases h0 : 0 ≤ v
  · have h0' := decide_eq_true h0
    by_cases h1 : v < n
    · have h1' := decide_eq_true h1
      go_enter Tryd.func54, Tryd.ntmps54
      go_wp2_with fail
      go_ret
      exact ⟨ret_bool (by simp [ownB, h0, h1]), rfl⟩
    · have h1' := decide_eq_false h1
      go_enter Tryd.func54, Tryd.ntmps54
      go_wp2_with fail
      go_ret
      exact ⟨ret_bool (by simp [ownB, h1]), rfl⟩
  · have h0' := decide_eq_false h0
    go_enter Tryd.func54, Tryd.ntmps54
    go_wp2_with fail
    go_ret
    exact ⟨ret_bool (by rw [ownB, decide_eq_false (show ¬ (0 ≤ v ∧ v < n) by omega)]), rfl⟩

def kindV0 : Value := .func (Fn.func 53) #[] #[]
def kindV1 : Value := .func (Fn.func 49) #[] #[]
def kindV (b : Nat) : Value := .func (Fn.func 54) #[] #[.pointer (some ⟨b, 0, none⟩)]
/-- the kinds of the first k sorts, in a row of one's own -/
structure Kinds (base : Nat) (w : World) (v : Value) (k : Nat) (sz : List Int) : Prop where
  row : ∃ vals, w.ownsRow base 79 1 v (2 + k) vals ∧ vals[0]? = some kindV0 ∧ vals[1]? = some kindV1 ∧
    ∀ i n, i < k → sz[i]? = some n → ∃ b, vals[2 + i]? = some (kindV b) ∧ w.heap[b]? = some (.cells #[.int .i64 n] 3 (0, 0)) ∧ v.ownBlock ≠ some b
theorem owns_lit1 (w : World) (e : TypeId) (xs : List Value) (hx : xs.length ≤ maxLen) : (w.alloc (.cells xs.toArray e)).ownsRow w.heap.size e 1 (.slice (some ⟨w.heap.size, 0, none⟩) xs.length xs.length) xs.length xs :=
  ⟨by simp, .inr ⟨w.heap.size, xs.length, xs.toArray, rfl, Nat.le_refl _, by show (w.heap.push _)[w.heap.size]? = _; exact Array.getElem?_push_size, Nat.le_refl _, hx, by simp, by simp⟩⟩
theorem info_fn : (Tryd.prog.info? 79).map (fun i => (i.zero, i.size, i.bytes)) = some (some .nilFunc, 1, 8) := by kernel_rfl
theorem Kinds.push {base : Nat} {w wr w' : World} {v v' : Value} {k : Nat} {sz : List Int} {n : Int} {vals : List Value} (hk : sz[k]? = some n)
    (ho : wr.ownsRow base 79 1 v (2 + k) vals) (h0 : vals[0]? = some kindV0) (h1 : vals[1]? = some kindV1) (hv : ∀ i n, i < k → sz[i]? = some n → ∃ b, vals[2 + i]? = some (kindV b) ∧ wr.heap[b]? = some (.cells #[.int .i64 n] 3 (0, 0)) ∧ v.ownBlock ≠ some b)
    (hw : w = (wr.alloc (.cells #[.int .i64 n] 3)).alloc (.cells #[kindV wr.heap.size] 79))
    (ho' : w'.ownsRow base 79 1 v' (2 + k + 1) (vals ++ [kindV wr.heap.size])) (hg : w.grownBy w' v.ownBlock) (hat : v'.ownBlock = v.ownBlock ∨ v'.ownBlock = some (wr.heap.size + 1 + 1)) :
    Kinds base w' v' (k + 1) sz := by
  have hlen : vals.length = 2 + k := by have := ho.1; omega
  have hz : w.heap.size = wr.heap.size + 1 + 1 := by rw [hw]; simp
  have keep : ∀ (j : Nat) (o : Obj), w.heap[j]? = some o → v.ownBlock ≠ some j → w'.heap[j]? = some o := fun j o hj hne => (hg.block j (lt_of_block hj) (fun e => hne e.symm)).trans hj
  have old : ∀ (j : Nat) (o : Obj), wr.heap[j]? = some o → w.heap[j]? = some o := fun j o hj => by
    rw [hw]
    have hl := lt_of_block hj
    rw [Below.heap_alloc _ _ _ (by simp; omega), Below.heap_alloc _ _ _ hl]; exact hj
  have ne' : ∀ b o, wr.heap[b]? = some o → v.ownBlock ≠ some b → v'.ownBlock ≠ some b := fun b o hb hne e => by
    rcases hat with h | h
    · exact hne (h.symm.trans e)
    · have := lt_of_block hb
      rw [h] at e; simp at e; omega
  refine ⟨vals ++ [kindV wr.heap.size], by rw [show 2 + (k + 1) = 2 + k + 1 by omega]; exact ho', by rw [List.getElem?_append_left (by omega)]; exact h0, by rw [List.getElem?_append_left (by omega)]; exact h1, fun i m hi hm => ?_⟩
  by_cases he : i < k
  · obtain ⟨b, e1, e2, e3⟩ := hv i m he hm
    exact ⟨b, by rw [List.getElem?_append_left (by omega)]; exact e1, keep _ _ (old _ _ e2) e3, ne' b _ e2 e3⟩
  · obtain rfl : i = k := by omega
    rw [hk] at hm
    cases hm
    have hb : w.heap[wr.heap.size]? = some (.cells #[.int .i64 n] 3 (0, 0)) := by
      rw [hw, Below.heap_alloc _ _ _ (by simp)]
      exact Array.getElem?_push_size
    have hv : v.ownBlock ≠ some wr.heap.size := fun e => by have := (ho.lt _ e).2; omega
    refine ⟨wr.heap.size, by rw [List.getElem?_append_right (by omega), hlen]; simp, keep _ _ hb hv, fun e => ?_⟩
    rcases hat with h | h
    · exact hv (h.symm.trans e)
    · rw [h] at e; simp at e; omega
set_option maxRecDepth 100000 in
set_option maxHeartbeats 1600000 in
theorem kinds_any {sz : List Int} {w : World} {A : Option Addr} {c pb : Nat} (hl : Lies 1 (IntR .i64) w A sz) (hb : (sz.length : Int) ≤ 1000000) (hp : w.cell? ⟨pb, 0, none⟩ = some (.slice A sz.length c)) (hpl : pb < w.heap.size) :
    Calls Tryd.prog 33 #[.pointer (some ⟨pb, 0, none⟩)] w fun e w' => (∃ v, e = .returned v ∧ Kinds w.heap.size w' v sz.length sz) ∧ Below w.heap.size w w' := by
  have HL := Lib.hid hl
  have HB0 := Lib.hid ((Below.refl w.heap.size w).alloc (Nat.le_refl _) (.cells #[kindV0, kindV1] 79))
  have HO := Lib.hid (owns_lit1 w 79 [kindV0, kindV1] (by simp [maxLen]))
  have hp1 := ((bcell HB0.out).1 pb 0 hpl).trans hp
  obtain ⟨i0, hi0, z0, z1, z2⟩ := info_parts info_fn
  have I0 := Lib.hid hi0
  have I1 := Lib.hid z0
  have I2 := Lib.hid z1
  have I3 := Lib.hid z2
  have HK0 := Lib.hid (show Kinds w.heap.size (w.alloc (.cells #[kindV0, kindV1] 79)) (.slice (some ⟨w.heap.size, 0, none⟩) 2 2) 0 sz from ⟨[kindV0, kindV1], HO.out, rfl, rfl, fun i n hi => by omega⟩)
  clear hl hi0 z0 z1 z2 HO
  unfold kindV0 kindV1 at HB0 HK0 hp1
  go_enter Tryd.func33, Tryd.ntmps33
  go_wp2_with fail
  generalize w.alloc (.cells #[.func (Fn.func 53) #[] #[], .func (Fn.func 49) #[] #[]] 79) = w1 at *
  go_loopw [3, 12] (fun out i wr => ∃ k : Nat, k ≤ sz.length ∧ i = .int .i64 k ∧ Kinds w.heap.size wr out k sz ∧ Below w.heap.size w wr) (fun _ i _ => sz.length - (intOf i).toNat)
  case atStart => exact ⟨0, by omega, rfl, HK0.out, HB0.out⟩
  case round =>
    obtain ⟨k, hk, rfl, hK, hB⟩ := hrel
    have HK := Lib.hid hK
    have HB := Lib.hid hB
    clear hB HK0
    by_cases hlt : k < sz.length
    · have hlt2 : (k : Int) < (sz.length : Int) := by omega
      have hx := List.getElem?_eq_getElem hlt
      generalize sz[k] = n at hx
      obtain ⟨b, o, vs, rfl, hbl, _, hcell, hr⟩ := (HL.out.on (IntR.lasts _) HB.out).at' hx
      obtain ⟨rfl, _⟩ := hr
      have c0 := hcell 0 _ rfl
      rw [Nat.mul_one, Nat.add_zero] at c0
      obtain ⟨vals, ho, h0, h1, hv⟩ := hK.row
      obtain ⟨Av, cv, rfl⟩ := shape_of_owns ho
      have HO := Lib.hid ho
      have H01 := Lib.hid (And.intro h0 (And.intro h1 hv))
      have HX := Lib.hid hx
      have HC := Lib.hid (Cells.new (wr.alloc (.cells #[.int .i64 n] 3)) [kindV wr.heap.size] 79 (0, 0))
      clear hK hx hcell h0 h1 hv ho
      go_wp2_with (at_builtin; refine wpList_append_at rfl (.tmp 16) (.tmp 18) _ rfl w.heap.size 79 i0 .nilFunc 1 8 Tryd.underlying89 I0.out I1.out I2.out I3.out rfl (by decide) (.slice Av (2 + k) cv) (2 + k) vals rfl ?c1 (some ⟨wr.heap.size + 1, 0, none⟩) 1 1 [kindV wr.heap.size] rfl ?c2 ?c3 ?c4 ?c5 ?c6 ?c7 ?c8)
      case c1 => exact (HO.out.alloc _).alloc _
      case c2 => rfl
      case c3 => have := HC.out; simp at this; exact this
      case c4 => simp [kindV, Value.oneCell']
      case c5 => unfold maxLen; omega
      case c6 => omega
      case c7 => have := HB.out.size; simp; omega
      intro v' w8 hown hgr hat
      have HK8 := Lib.hid (Kinds.push (w := (wr.alloc (.cells #[.int .i64 n] 3)).alloc (.cells #[kindV wr.heap.size] 79)) HX.out HO.out H01.out.1 H01.out.2.1 H01.out.2.2 rfl hown hgr hat)
      have HB8 := Lib.hid (((HB.out.alloc HB.out.size (.cells #[.int .i64 n] 3)).alloc (by have := HB.out.size; simp; omega) (.cells #[kindV wr.heap.size] 79)).grown hgr (by have := HB.out.size; simp; omega) (fun k hk => (HO.out.lt k hk).1))
      clear hown hgr hat
      go_wp2_with fail
      go_roundw
      case rel => exact ⟨k + 1, by omega, by go_num, HK8.out, HB8.out⟩
      case measure => simp [intOf]; omega
    · obtain rfl : k = sz.length := by omega
      obtain ⟨vals, ho, _⟩ := hK.row
      obtain ⟨Av, cv, rfl⟩ := shape_of_owns ho
      clear hK ho
      have HP := Lib.hid (show ∃ v', Ending.returned (.slice Av (2 + sz.length) cv) = .returned v' ∧ Kinds w.heap.size wr v' sz.length sz from ⟨_, rfl, HK.out⟩)
      go_wp2_with fail
      go_ret
      exact ⟨HP.out, HB.out⟩

theorem isB_len {n : Nat} {sz : List Int} {s v : Int} (h : ¬ sz.length = n) : isB n sz s v = false := by unfold isB; rw [decide_eq_false h]; rfl
theorem isB_out {n : Nat} {sz : List Int} {s v : Int} (h : ¬ (0 ≤ s ∧ s < 2 + (n : Int))) : isB n sz s v = false := by unfold isB; rw [decide_eq_false h]; simp
theorem isB_bool {sz : List Int} {v : Int} : isB sz.length sz 0 v = bitB v := by
  unfold isB
  rw [decide_eq_true rfl, decide_eq_true (by omega)]; rfl
theorem isB_int {sz : List Int} {v : Int} : isB sz.length sz 1 v = mayB v := by
  unfold isB
  rw [decide_eq_true rfl, decide_eq_true (by omega)]; rfl
theorem isB_own {sz : List Int} {i : Nat} {n v : Int} (h : sz[i]? = some n) : isB sz.length sz ((2 + i : Nat) : Int) v = ownB n v := by
  have hl := (List.getElem?_eq_some_iff.1 h).1
  unfold isB valB
  rw [decide_eq_true rfl, decide_eq_true (by omega), if_neg (by omega), if_neg (by omega), show (((2 + i : Nat) : Int) - 2).toNat = i by omega, List.getD_eq_getElem?_getD, h]
  rfl
theorem box2_cell (w : World) (o : Obj) (cs : Array Value) (t : TypeId) (j : Nat) : ((w.alloc o).alloc (.cells cs t)).cell? ⟨w.heap.size + 1, j, none⟩ = cs[j]? := by
  refine cell_of_cells (fr := (0, 0)) (e := t) ?_ j
  rw [show w.heap.size + 1 = (w.alloc o).heap.size by simp]
  exact Array.getElem?_push_size
set_option maxRecDepth 100000 in
set_option maxHeartbeats 3200000 in
theorem is_any {w : World} {A1 A2 A3 B1 B2 : Option Addr} {n1 c1 n2 c2 n3 c3 d1 m d2 : Nat} {sz : List Int} (hl : Lies 1 (IntR .i64) w B1 sz) (hb : (sz.length : Int) ≤ 1000000) (hn : (n1 : Int) ≤ 140737488351232) (s v : Int) (hv : I64 v) :
    Calls Tryd.prog 19 #[.agg #[.slice A1 n1 c1, .slice A2 n2 c2, .slice A3 n3 c3], .agg #[.slice B1 sz.length d1, .slice B2 m d2], .int .i64 s, .int .i64 v] w fun e w' => e = .returned (.bool (isB n1 sz s v)) ∧ Below w.heap.size w w' := by
  have HB2 := Lib.hid (((Below.refl w.heap.size w).alloc (Nat.le_refl _) (.cells #[.slice A1 n1 c1, .slice A2 n2 c2, .slice A3 n3 c3] 26)).alloc (by simp) (.cells #[.slice B1 sz.length d1, .slice B2 m d2] 30))
  have HL2 := Lib.hid (hl.on (IntR.lasts _) HB2.out)
  obtain ⟨g0, g1, g2⟩ := sig_cells w (.slice A1 n1 c1) (.slice A2 n2 c2) (.slice A3 n3 c3) 26
  have e0 : ((w.alloc (.cells #[.slice A1 n1 c1, .slice A2 n2 c2, .slice A3 n3 c3] 26)).alloc (.cells #[.slice B1 sz.length d1, .slice B2 m d2] 30)).cell? ⟨w.heap.size, 0, none⟩ = some (.slice A1 n1 c1) :=
    ((bcell ((Below.refl _ _).alloc (Nat.le_refl _) _)).1 w.heap.size 0 (by simp)).trans g0
  have e1 : ((w.alloc (.cells #[.slice A1 n1 c1, .slice A2 n2 c2, .slice A3 n3 c3] 26)).alloc (.cells #[.slice B1 sz.length d1, .slice B2 m d2] 30)).cell? ⟨w.heap.size + 1, 0, none⟩ = some (.slice B1 sz.length d1) :=
    box2_cell w _ _ _ 0
  have hz : w.heap.size + 1 < ((w.alloc (.cells #[.slice A1 n1 c1, .slice A2 n2 c2, .slice A3 n3 c3] 26)).alloc (.cells #[.slice B1 sz.length d1, .slice B2 m d2] 30)).heap.size := by simp
  clear g0 g1 g2 hl
  go_enter Tryd.func19, Tryd.ntmps19
  go_wp2_with fail
  generalize (w.alloc (.cells #[.slice A1 n1 c1, .slice A2 n2 c2, .slice A3 n3 c3] 26)).alloc (.cells #[.slice B1 sz.length d1, .slice B2 m d2] 30) = w2 at *
  refine (kinds_any HL2.out hb e1 hz).mono ?_
  rintro e w3 ⟨⟨v', rfl, hK⟩, hb3⟩
  have HB3 := Lib.hid (HB2.out.trans (hb3.mono HB2.out.size))
  have p0 := ((bcell hb3).1 w.heap.size 0 (by omega)).trans e0
  have p1 := ((bcell hb3).1 (w.heap.size + 1) 0 (by omega)).trans e1
  obtain ⟨vals, ho, h0, h1, hvs⟩ := hK.row
  obtain ⟨gb, cap, rfl, _, hcells⟩ := owned_open ho (by omega)
  have HV := Lib.hid hvs
  have k0 := hcells 0 _ h0
  have k1 := hcells 1 _ h1
  unfold kindV0 at k0
  unfold kindV1 at k1
  have HC := Lib.hid hcells
  clear hb3 e0 e1 hz hK ho h0 h1 hvs hcells HB2 HL2
  by_cases hq : sz.length = n1
  · subst hq
    have hq' : ((sz.length : Int) == (sz.length : Int)) = true := by simp
    by_cases hs0 : 0 ≤ s
    · have hs0' := decide_eq_true hs0
      by_cases hs1 : s < 2 + (sz.length : Int)
      · have hs1' := decide_eq_true hs1
        by_cases ha : s = 0
        · subst ha
          have HR := Lib.hid (isB_bool (sz := sz) (v := v))
          go_wp2_with fail
          refine (kind1_any v hv w3).mono ?_
          rintro e w4 ⟨rfl, rfl⟩
          go_wp2_with fail
          go_ret
          exact ⟨ret_bool HR.out.symm, HB3.out⟩
        · by_cases ha1 : s = 1
          · subst ha1
            have HR := Lib.hid (isB_int (sz := sz) (v := v))
            go_wp2_with fail
            refine (may_any v hv w3).mono ?_
            rintro e w4 ⟨rfl, rfl⟩
            go_wp2_with fail
            go_ret
            exact ⟨ret_bool HR.out.symm, HB3.out⟩
          · obtain ⟨i, rfl⟩ : ∃ i : Nat, s = ((2 + i : Nat) : Int) := ⟨s.toNat - 2, by omega⟩
            have hil : i < sz.length := by omega
            have hx := List.getElem?_eq_getElem hil
            generalize sz[i] = n at hx
            have HR := Lib.hid (isB_own (v := v) hx)
            obtain ⟨b, e1, e2, _⟩ := HV.out i n hil hx
            have k2 := HC.out _ _ e1
            have hb0 : w3.cell? ⟨b, 0, none⟩ = some (.int .i64 n) := by rw [cell_of_cells e2]; rfl
            unfold kindV at k2
            have HB0 := Lib.hid hb0
            clear e1 e2 hx hb0
            go_wp2_with fail
            refine (kind2_any v n b w3 HB0.out).mono ?_
            rintro e w4 ⟨rfl, rfl⟩
            go_wp2_with fail
            go_ret
            exact ⟨ret_bool HR.out.symm, HB3.out⟩
      · have hs1' := decide_eq_false hs1
        have HR := Lib.hid (isB_out (n := sz.length) (sz := sz) (s := s) (v := v) (by omega))
        go_wp2_with fail
        go_ret
        exact ⟨ret_bool HR.out.symm, HB3.out⟩
    · have hs0' := decide_eq_false hs0
      have HR := Lib.hid (isB_out (n := sz.length) (sz := sz) (s := s) (v := v) (by omega))
      go_wp2_with fail
      go_ret
      exact ⟨ret_bool HR.out.symm, HB3.out⟩
  · have HR := Lib.hid (isB_len (sz := sz) (s := s) (v := v) hq)
    have hq' : ((sz.length : Int) == (n1 : Int)) = false := beq_eq_false_iff_ne.2 (by omega)
    go_wp2_with fail
    go_ret
    exact ⟨ret_bool HR.out.symm, HB3.out⟩
end Go.Proofs.YtfcmpfaonpnbaaaDoor.Vl
