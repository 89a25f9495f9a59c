/- HeapPops: the law. -/
import Derived.Test.YtdelfgilcfoaoaaHeapSorted
import Derived.Test.YtdelfgilcfoaoaaHeapPuts
namespace Go.Proofs.Ytdelfgilcfoaoaa.Hp
open Go.RowKit

theorem Sorted.uncons {a : Ab} {i : Nat} {l : List Nat} (h : Sorted a (i :: l)) : First a i ∧ Sorted (a.out i) l := by
  cases h with
  | cons f k => exact ⟨f, k⟩
theorem Sorted.empty {a : Ab} (h : Sorted a []) : Empty a := by
  cases h with
  | nil e => exact e
/-- two that follow each other -/
theorem Sorted.pair {a : Ab} {i j : Nat} {l : List Nat} (h : Sorted a (i :: j :: l)) : ahead a.act i j := by
  obtain ⟨f, k⟩ := h.uncons
  have hj := (k.lt j (by simp))
  have hin : a.inn j = true ∧ j ≠ i := by
    have h2 := hj.2
    simp only [Ab.out, upd] at h2
    split at h2
    · cases h2
    · exact ⟨h2, by assumption⟩
  exact f.best j hj.1 hin.1 hin.2
/-- what is left when the first k are taken -/
def outs (a : Ab) (l : List Nat) : Ab := l.foldl Ab.out a
theorem outs_act (l : List Nat) : ∀ a : Ab, (outs a l).act = a.act := by
  induction l with
  | nil => intro a; rfl
  | cons x l ih => intro a; exact ih (a.out x)
theorem outs_n (l : List Nat) : ∀ a : Ab, (outs a l).n = a.n := by
  induction l with
  | nil => intro a; rfl
  | cons x l ih => intro a; exact ih (a.out x)
theorem Sorted.drop {l : List Nat} : ∀ {a : Ab} (_ : Sorted a l) (k : Nat), Sorted (outs a (l.take k)) (l.drop k) := by
  induction l with
  | nil => intro a h k; simpa [outs] using h
  | cons x l ih =>
    intro a h k
    cases k with
    | zero => exact h
    | succ k => exact ih h.uncons.2 k
theorem Sorted.at' {a : Ab} {l : List Nat} (h : Sorted a l) {k x : Nat} (hx : l[k]? = some x) : First (outs a (l.take k)) x ∧ Sorted ((outs a (l.take k)).out x) (l.drop (k + 1)) ∧ (outs a (l.take k)).out x = outs a (l.take (k + 1)) := by
  have hlt : k < l.length := (List.getElem?_eq_some_iff.1 hx).1
  have e : l.drop k = x :: l.drop (k + 1) := by
    rw [List.drop_eq_getElem_cons hlt]
    rw [List.getElem?_eq_getElem hlt] at hx
    simp at hx; rw [hx]
  have h1 := h.drop k
  rw [e] at h1
  refine ⟨h1.uncons.1, h1.uncons.2, ?_⟩
  rw [List.take_add_one, hx]
  simp [outs]
theorem Sorted.next {a : Ab} {l : List Nat} (h : Sorted a l) {k x y : Nat} (hx : l[k]? = some x) (hy : l[k + 1]? = some y) : ahead a.act x y := by
  have h0 : k < l.length := (List.getElem?_eq_some_iff.1 hx).1
  have h1 : k + 1 < l.length := (List.getElem?_eq_some_iff.1 hy).1
  have e : l.drop k = x :: y :: l.drop (k + 1 + 1) := by
    rw [List.drop_eq_getElem_cons h0, List.drop_eq_getElem_cons h1]
    rw [List.getElem?_eq_getElem h0] at hx
    rw [List.getElem?_eq_getElem h1] at hy
    simp at hx hy; rw [hx, hy]
  have h2 := h.drop k
  rw [e] at h2
  have := h2.pair
  rwa [outs_act] at this

/-- all that a heap owns has been made -/
theorem At.within {O : Nat → Prop} {w : World} {H : Nat} {a : Ab} (h : At O w H a) : At (fun k => O k ∧ k < w.heap.size) w H a := by
  obtain ⟨ba, bt, rv, s, h1, h2, h3⟩ := h
  obtain ⟨ca, ct, g1⟩ := h1.obj
  obtain ⟨cs, g2, g2'⟩ := h1.act
  obtain ⟨cp, g3, g3'⟩ := h1.pos
  refine ⟨ba, bt, rv, s, ⟨h1.obj, h1.act, h1.pos, ?_, h1.ne, ⟨h1.oH, lt_of_block g1⟩, ⟨h1.ot, lt_of_block g3⟩⟩, ⟨h2, lt_of_block g2⟩, h3⟩
  rcases h1.row with g4 | ⟨br, cap, cr, g4, g5, g6, g7, g8, g9, g10, g11, g12⟩
  · exact .inl g4
  · exact .inr ⟨br, cap, cr, g4, g5, g6, g7, g8, g9, g10, g11, ⟨g12, lt_of_block g5⟩⟩

set_option maxRecDepth 100000 in
set_option maxHeartbeats 3200000 in
theorem pops_far {w : World} (n : Int) (A : Option Addr) (cap : Nat) (l : List Act3) (hl : (l.length : Int) ≤ 9223372036854775807) (h : 300 < l.length ∨ n < 0 ∨ 300 < n) :
    Calls Try.prog 6 #[.int .i64 n, .slice A l.length cap] w fun e w' => e = .returned (.bool true) ∧ Below w.heap.size w w' := by
  generalize hL : l.length = L at *
  have HW := Lib.hid (wakes_any w)
  by_cases h1 : 300 < L
  · have h1' : (300 : Int) < (L : Int) := by omega
    go_enter Try.func6, Try.ntmps6
    go_wp2_with fail
    refine HW.out.mono ?_
    rintro e w1 ⟨rfl, hb⟩
    go_wp2_with fail
    go_ret
    exact ⟨rfl, hb⟩
  · have h1' : ¬ (300 : Int) < (L : Int) := by omega
    have d1 := decide_eq_false h1'
    by_cases h2 : n < 0
    · go_enter Try.func6, Try.ntmps6
      go_wp2_with fail
      refine HW.out.mono ?_
      rintro e w1 ⟨rfl, hb⟩
      go_wp2_with fail
      go_ret
      exact ⟨rfl, hb⟩
    · have h3 : 300 < n := by omega
      have d2 := decide_eq_false h2
      go_enter Try.func6, Try.ntmps6
      go_wp2_with fail
      refine HW.out.mono ?_
      rintro e w1 ⟨rfl, hb⟩
      go_wp2_with fail
      go_ret
      exact ⟨rfl, hb⟩

/-- a heap's Pop where it is known which one is the first -/
theorem pop_first {O : Nat → Prop} {w : World} {H k : Nat} {a : Ab} (h : At O w H a) (hF : First a k) :
    Calls Try.prog 16 #[.pointer (some ⟨H, 0, none⟩)] w fun e w' => e = .returned (.tuple #[.int .i64 k, .bool true]) ∧ At O w' H (a.out k) ∧ Keeps O w w' := by
  refine (ptr_pop h).mono ?_
  rintro e w' ⟨he, h1, h2⟩
  rw [popA_first hF] at h1
  rcases he with ⟨j, hj, he⟩ | ⟨he, _⟩
  · exact ⟨by rw [he, hj.unique hF], h1, h2⟩
  · exact absurd hF (fun f => he.no_first f)
theorem pop_empty {O : Nat → Prop} {w : World} {H : Nat} {a : Ab} (h : At O w H a) (hE : Empty a) :
    Calls Try.prog 16 #[.pointer (some ⟨H, 0, none⟩)] w fun e w' => e = .returned (.tuple #[.int .i64 0, .bool false]) ∧ At O w' H a ∧ Keeps O w w' := by
  refine (ptr_pop h).mono ?_
  rintro e w' ⟨he, h1, h2⟩
  rw [popA_empty hE] at h1
  rcases he with ⟨j, hj, he⟩ | ⟨_, he⟩
  · exact absurd hj (fun f => hE.no_first f)
  · exact ⟨he, h1, h2⟩

/-- what stands at the head of a round -/
structure PopsAt (w : World) (O : Nat → Prop) (H : Nat) (a : Ab) (l : List Nat) (k : Nat) (w3 wr : World) : Prop where
  at' : At O wr H (outs a (l.take k))
  keep : Keeps O w3 wr
  below : Below w.heap.size w wr

set_option maxRecDepth 100000 in
set_option maxHeartbeats 6400000 in
theorem pops_near {w : World} (n : Nat) (hn : n ≤ 300) (A : Option Addr) (cap : Nat) (l : List Act3) (hc : Cells w A (flat l)) (hl : l.length ≤ 300) :
    Calls Try.prog 6 #[.int .i64 n, .slice A l.length cap] w fun e w' => e = .returned (.bool true) ∧ Below w.heap.size w w' := by
  have HBe := Lib.hid (behind_any w n (by omega) A cap l hc hl)
  have h1' : ¬ (300 : Int) < (l.length : Int) := by omega
  have d1 := decide_eq_false h1'
  have h2 : ¬ (n : Int) < 0 := by omega
  have h3 : ¬ (300 : Int) < (n : Int) := by omega
  have d2 := decide_eq_false h2
  have d3 := decide_eq_false h3
  clear hc
  go_enter Try.func6, Try.ntmps6
  go_wp2_with fail
  refine HBe.out.mono ?_
  rintro e w1 ⟨H, rfl, ha, hb⟩
  have A1 := Lib.hid ha.1.within
  have Z1 := Lib.hid ha.2
  have B1 := Lib.hid hb
  generalize play (newA n) l = ab at A1
  clear ha hb h1' d1 h2 h3 d2 d3
  go_wp2_with fail
  refine (sorted_any A1.out).mono ?_
  rintro e w2 ⟨v, r, rfl, hs, hown, hb⟩
  have HS := Lib.hid hs
  have HO := Lib.hid hown
  have A2 := Lib.hid (A1.out.below hb)
  have B2 := Lib.hid (B1.out.trans (hb.mono B1.out.size))
  have hlen := hs.len
  obtain ⟨Av, cv, rfl⟩ := owned_slice hown
  have HC := Lib.hid (Cells.own hown)
  have hr : r.length ≤ 65536 := by rw [hlen]; exact Nat.le_trans (cnt_le _ _) A1.out.small
  clear hs hown hb
  have P := ptr_len A2.out
  rw [← hlen] at P
  clear hlen
  go_wp2_with fail
  refine (P).mono ?_
  rintro e w' ⟨rfl, rfl⟩
  clear P
  go_wp2_with fail
  go_loopw [7] (fun v wr => ∃ k : Nat, k ≤ r.length ∧ v = .int .i64 k ∧ PopsAt w (fun j => w.heap.size ≤ j ∧ j < w1.heap.size) H ab r k w2 wr) (fun v _ => r.length - (intOf v).toNat)
  case atStart => exact ⟨0, Nat.zero_le _, rfl, A2.out, Keeps.refl _ _, B2.out⟩
  case round =>
    obtain ⟨k, hk, rfl, hP⟩ := hrel
    have HP := Lib.hid hP
    clear hP
    by_cases hlt : k < r.length
    · have hlt2 : (k : Int) < (r.length : Int) := by omega
      have hx := List.getElem?_eq_getElem hlt
      generalize r[k] = x at hx
      have HX := Lib.hid (HS.out.at' hx)
      go_wp2_with fail
      refine (pop_first HP.out.at' HX.out.1).mono ?_
      rintro e w3 ⟨rfl, hat, hkp⟩
      have A3 := Lib.hid hat
      have K3 := Lib.hid (HP.out.keep.trans_same hkp)
      have B3 := Lib.hid (HP.out.below.trans (hkp.below (B := w.heap.size) (fun _ h => h.1) HP.out.below.size))
      clear hat hkp
      have hxn : x < ab.n := by have := HX.out.1.lt; rwa [outs_n] at this
      have P1 := ptr_has A3.out x
      rw [hasN (show x < ((outs ab (r.take k)).out x).n by show x < (outs ab (r.take k)).n; rw [outs_n]; exact hxn), show ((outs ab (r.take k)).out x).inn x = false from upd_self _ _ _] at P1
      have hact : ∀ y, y < ab.n → actA ((outs ab (r.take k)).out x) y = ab.act y := fun y hy => by
        rw [actN (show y < ((outs ab (r.take k)).out x).n by show y < (outs ab (r.take k)).n; rw [outs_n]; exact hy)]
        show (outs ab (r.take k)).act y = _; rw [outs_act]
      have P2 := ptr_act A3.out x
      rw [hact x hxn] at P2
      have hown3 := owns_keep HO.out K3.out (fun j hj => hj.2)
      have HN := Lib.hid (show PopsAt w (fun j => w.heap.size ≤ j ∧ j < w1.heap.size) H ab r (k + 1) w2 w3 from ⟨by have := A3.out; rwa [HX.out.2.2] at this, K3.out, B3.out⟩)
      rcases Cells.own hown3 with h0 | ⟨b, o, rfl, hbl, hcell⟩
      · simp at h0; rw [h0] at hlt; simp at hlt
      · have c := hcell k (.int .i64 x) (by simp [hx])
        clear hown3
        rcases Nat.eq_zero_or_pos k with rfl | hpos
        · clear hcell P2 hact
          rw [Nat.add_zero] at c
          go_wp2_with fail
          refine (P1).mono ?_
          rintro e w' ⟨rfl, rfl⟩
          go_wp2_with fail
          go_roundw
          case rel => exact ⟨1, by omega, by go_num, HN.out⟩
          case measure => simp [intOf]; omega
        · have hpos2 : (0 : Int) < (k : Int) := by omega
          have hy := List.getElem?_eq_getElem (show k - 1 < r.length by omega)
          generalize r[k - 1] = y at hy
          have cy := hcell (k - 1) (.int .i64 y) (by simp [hy])
          have hah := HS.out.next hy (by rw [Nat.sub_add_cancel (show 1 ≤ k from hpos)]; exact hx)
          have hyn : y < ab.n := (HS.out.lt y (List.mem_of_getElem? hy)).1
          have P3 := ptr_act A3.out y
          rw [hact y hyn] at P3
          clear hcell hact
          unfold Hp.ahead at hah
          generalize ab.act x = ax at *
          generalize ab.act y = ay at *
          have hk1 : (k : Int) - 1 < (r.length : Int) := by omega
          have hk0 : (0 : Int) ≤ (k : Int) - 1 := by omega
          have d1 : decide (ay < ax) = false := decide_eq_false (by omega)
          cases hq : (ay == ax) with
          | true =>
            have hyx : y < x := by simp at hq; omega
            have d2 : decide ((x : Int) ≤ (y : Int)) = false := decide_eq_false (by omega)
            go_wp2_with fail
            refine (P1).mono ?_
            rintro e w' ⟨rfl, rfl⟩
            go_wp2_with fail
            refine (P3).mono ?_
            rintro e w' ⟨rfl, rfl⟩
            go_wp2_with fail
            refine (P2).mono ?_
            rintro e w' ⟨rfl, rfl⟩
            go_wp2_with fail
            refine (P3).mono ?_
            rintro e w' ⟨rfl, rfl⟩
            go_wp2_with fail
            refine (P2).mono ?_
            rintro e w' ⟨rfl, rfl⟩
            go_wp2_with fail
            go_roundw
            case rel => exact ⟨k + 1, by omega, by go_num, HN.out⟩
            case measure => simp [intOf]; omega
          | false =>
            go_wp2_with fail
            refine (P1).mono ?_
            rintro e w' ⟨rfl, rfl⟩
            go_wp2_with fail
            refine (P3).mono ?_
            rintro e w' ⟨rfl, rfl⟩
            go_wp2_with fail
            refine (P2).mono ?_
            rintro e w' ⟨rfl, rfl⟩
            go_wp2_with fail
            refine (P3).mono ?_
            rintro e w' ⟨rfl, rfl⟩
            go_wp2_with fail
            refine (P2).mono ?_
            rintro e w' ⟨rfl, rfl⟩
            go_wp2_with fail
            go_roundw
            case rel => exact ⟨k + 1, by omega, by go_num, HN.out⟩
            case measure => simp [intOf]; omega
    · obtain rfl : k = r.length := by omega
      go_wp2_with fail
      refine (pop_empty HP.out.at' (by have := HS.out.drop r.length; rw [List.drop_length] at this; exact this.empty)).mono ?_
      rintro e w3 ⟨rfl, hat, hkp⟩
      have P := ptr_len hat
      have HL0 := Lib.hid (show (outs ab (r.take r.length)).len = 0 from Empty.len (by have := HS.out.drop r.length; rw [List.drop_length] at this; exact this.empty))
      rw [HL0.out] at P
      have B3 := Lib.hid (HP.out.below.trans (hkp.below (B := w.heap.size) (fun _ h => h.1) HP.out.below.size))
      have HW := Lib.hid (wakes_any w3)
      clear hat hkp
      go_wp2_with fail
      refine (P).mono ?_
      rintro e w' ⟨rfl, rfl⟩
      clear P
      go_wp2_with fail
      refine HW.out.mono ?_
      rintro e w4 ⟨rfl, hb⟩
      have B4 := Lib.hid (B3.out.trans (hb.mono B3.out.size))
      clear hb
      go_wp2_with fail
      go_ret
      exact ⟨rfl, B4.out⟩
theorem heapPops_all {w : World} (n : Int) (l : List Act3) (A : Option Addr) (cap : Nat) (hc : Cells w A (flat l)) (hl : l.length ≤ cap) (hm : cap ≤ 9223372036854775807) :
    Calls Try.prog 6 #[.int .i64 n, .slice A l.length cap] w fun e w' => e = .returned (.bool true) ∧ Below w.heap.size w w' := by
  by_cases h : 300 < l.length ∨ n < 0 ∨ 300 < n
  · exact pops_far n A cap l (by omega) h
  · obtain ⟨k, rfl⟩ := Int.eq_ofNat_of_zero_le (show 0 ≤ n by omega)
    exact pops_near k (by omega) A cap l hc (by omega)
end Go.Proofs.Ytdelfgilcfoaoaa.Hp
