/- HeapPlays: the law. -/
import Derived.Test.YtdelfgilcfoaoaaHeapGame
namespace Go.Proofs.Ytdelfgilcfoaoaa.Hp
open Go.RowKit

/-- a state behind an act -/
def stepG {σ : Type} (T : Tells σ) (s : σ) (x : Act3) : σ := if x.dow = 0 then T.sput s x.nd else if x.dow = 1 then T.spop s else if x.dow = 2 then T.sbump s x.nd x.by' else if x.dow = 3 then T.shalve s else s
/-- what stands at the head of a round -/
def PlaysAt {σ : Type} (B : Nat) (w : World) (P : (Nat → Prop) → σ → σ → World → Prop) (wr : World) : Prop := (∃ F s, P F s s wr) ∧ Below B w wr
theorem Game.carry {σ : Type} {T : Tells σ} {B : Nat} {hv gv : Option Addr} {P : (Nat → Prop) → σ → σ → World → Prop} (G : Game T B hv gv P) {F : Nat → Prop} {s t : σ} {w w' : World} (h : P F s t w) (hb : Below w.heap.size w w') : P F s t w' :=
  G.keep h (Keeps.of_below hb (fun _ => False)) (fun _ _ => id)

theorem act_box (wr : World) (xd xn xb : Int) :
    (wr.alloc (.cells #[.int .i64 xd, .int .i64 xn, .int .i64 xb] 40)).cell? ⟨wr.heap.size, 0, none⟩ = some (.int .i64 xd) ∧ (wr.alloc (.cells #[.int .i64 xd, .int .i64 xn, .int .i64 xb] 40)).cell? ⟨wr.heap.size, 1, none⟩ = some (.int .i64 xn) ∧ (wr.alloc (.cells #[.int .i64 xd, .int .i64 xn, .int .i64 xb] 40)).cell? ⟨wr.heap.size, 2, none⟩ = some (.int .i64 xb) ∧ wr.heap.size < (wr.alloc (.cells #[.int .i64 xd, .int .i64 xn, .int .i64 xb] 40)).heap.size := by
  refine ⟨?_, ?_, ?_, by simp⟩ <;> rw [World.cell?_alloc_mark] <;> rfl
theorem two_cells {F : Nat → Prop} {wx w3 wz : World} {X : Nat} {u v : Value} (h3 : Keeps F wx w3) (h4 : Keeps (more F wx w3) w3 wz) (hX : X < wx.heap.size) (hF : ¬ F X) (k1 : w3.cell? ⟨X, 1, none⟩ = some u) (k2 : w3.cell? ⟨X, 2, none⟩ = some v) :
    wz.cell? ⟨X, 1, none⟩ = some u ∧ wz.cell? ⟨X, 2, none⟩ = some v := by
  have hX3 : X < w3.heap.size := Nat.lt_of_lt_of_le hX h3.size
  have hF3 : ¬ more F wx w3 X := fun h => by rcases h with h | h; exact hF h; omega
  exact ⟨(h4.cell hX3 hF3).trans k1, (h4.cell hX3 hF3).trans k2⟩

theorem below_drewN {B : Nat} {a w : World} (h : Below B a w) (n : Nat) : Below B a (w.drewN n) := ⟨h.os, h.tape, h.output, h.size, h.block⟩
set_option maxRecDepth 100000 in
set_option maxHeartbeats 6400000 in
theorem plays_near {σ : Type} {T : Tells σ} {w : World} {Q : Option Addr → World → Prop} (n : Int) (hn : n ≤ 300 ∨ 65536 < n) (A : Option Addr) (cap : Nat) (l : List Act3) (x : Int) (hc : Cells w A (flat l)) (hl : l.length ≤ 300)
    (h1 : Calls Try.prog 17 #[.int .i64 n] w fun e w' => ∃ hv, e = .returned (.pointer hv) ∧ Q hv w' ∧ Below w.heap.size w w')
    (h2 : ∀ hv w1, Q hv w1 → Calls Try.prog 18 #[.int .i64 n] w1 fun e w' => ∃ gv P, e = .returned (.pointer gv) ∧ hv.isNone = gv.isNone ∧ Game T w.heap.size hv gv P ∧ (∃ F s, P F s s w') ∧ Below w1.heap.size w1 w') :
    Calls Try.prog 5 #[.int .i64 n, .slice A l.length cap, .int .i64 x] w fun e w' => e = .returned (.bool true) ∧ Below w.heap.size w w' := by
  have h1' : ¬ (300 : Int) < (l.length : Int) := by omega
  have d1 := decide_eq_false h1'
  have H1 := Lib.hid h1
  have H2 := Lib.hid h2
  clear h1 h2
  rcases hn with hn | hn
  · have d2 : decide (300 < n) = false := decide_eq_false (by omega)
    go_enter Try.func5, Try.ntmps5
    go_wp2_with fail
    refine H1.out.mono ?_
    rintro e w1 ⟨hv, rfl, hq, hb⟩
    have B1 := Lib.hid hb
    have Q1 := Lib.hid hq
    clear hb hq
    go_wp2_with fail
    refine (H2.out _ _ Q1.out).mono ?_
    rintro e w2 ⟨gv, P, rfl, hg, hG, hP, hb⟩
    have HG := Lib.hid hG
    have B2 := Lib.hid (B1.out.trans (hb.mono B1.out.size))
    have HP := Lib.hid hP
    clear hb hP hG
    rcases hv with _ | hv <;> rcases gv with _ | gv
    · clear hg
      go_wp2_with fail
      go_loopw [9] (fun v wr => ∃ k : Nat, k ≤ l.length ∧ v = .int .i64 k ∧ PlaysAt w.heap.size w P wr) (fun v _ => l.length - (intOf v).toNat)
      case atStart => exact ⟨0, Nat.zero_le _, rfl, HP.out, B2.out⟩
      case round =>
        obtain ⟨k, hk, rfl, ⟨F, s, hp⟩, hb⟩ := hrel
        have HPr := Lib.hid hp
        have HBr := Lib.hid hb
        have hC := hc.on hb
        clear hp hb
        by_cases hlt : k < l.length
        · have hlt2 : (k : Int) < (l.length : Int) := by omega
          have hx := List.getElem?_eq_getElem hlt
          generalize l[k] = y at hx
          rcases hC with h0 | ⟨b, o, rfl, hbl, hcell⟩
          · have := flat_length l; rw [h0] at this; simp at this; omega
          · obtain ⟨g0, g1, g2⟩ := flat_at l _ _ hx
            have c0 := hcell _ _ g0
            have c1 := hcell _ _ g1
            have c2 := hcell _ _ g2
            clear hcell
            obtain ⟨xd, xn, xb⟩ := y
            simp only at c0 c1 c2
            rw [← Nat.add_assoc] at c1 c2
            obtain ⟨x0, x1, x2, hX⟩ := act_box wr xd xn xb
            have HPx := Lib.hid (HG.out.carry HPr.out ((Below.refl _ wr).alloc (Nat.le_refl _) (.cells #[.int .i64 xd, .int .i64 xn, .int .i64 xb] 40)))
            have HPd := Lib.hid (HG.out.carry HPx.out ((Below.refl _ _).drew))
            have hXF : ¬ F wr.heap.size := fun h => by have := (HG.out.low HPr.out _ h).2; omega
            have HBx := Lib.hid (HBr.out.alloc HBr.out.size (.cells #[.int .i64 xd, .int .i64 xn, .int .i64 xb] 40))
            by_cases e0 : xd = 0
            · subst e0
              go_wp2_with fail
              generalize (wr.alloc (.cells #[.int .i64 0, .int .i64 xn, .int .i64 xb] 40)) = wx at *
              go_region_held3 (fun w' => w'.cell? ⟨wr.heap.size, 1, none⟩ = some (.int .i64 xn)) (go_keep)
                (first | (go_at_call 14; refine (HG.out.put1 xn HPd.out).mono ?_; rintro e w3 ⟨rfl, hp3, hk3⟩; have k1 := (hk3.cell (o := 1) hX hXF).trans x1; have k2 := (hk3.cell (o := 2) hX hXF).trans x2) | (go_at_call 19; refine (HG.out.put2 xn hp3).mono ?_; rintro e wz ⟨rfl, hp4, hk4⟩; obtain ⟨k3, k4⟩ := two_cells hk3 hk4 hX hXF k1 k2))
              have HPz := Lib.hid hp4
              have HBz := Lib.hid (HBx.out.drew.trans ((hk3.below (B := w.heap.size) (fun j hj => (HG.out.low HPd.out j hj).1) HBx.out.size).trans (hk4.below (B := w.heap.size) (fun j hj => (HG.out.low hp3 j hj).1) (Nat.le_trans HBx.out.size hk3.size))))
              clear k1 k2 k3 k4 hp3 hk3 hp4 hk4 x0 x1 x2
              have HL1 := Lib.hid (fun m => HG.out.len1 (HG.out.carry HPz.out (below_drewN (Below.refl _ wz) m)))
              have HL2 := Lib.hid (fun m => HG.out.len2 (HG.out.carry HPz.out (below_drewN (Below.refl _ wz) m)))
              have HA1 := Lib.hid (fun m => HG.out.act1 xn (HG.out.carry HPz.out (below_drewN (Below.refl _ wz) m)))
              have HA2 := Lib.hid (fun m => HG.out.act2 xn (HG.out.carry HPz.out (below_drewN (Below.refl _ wz) m)))
              have HH1 := Lib.hid (fun m => HG.out.has1 xn (HG.out.carry HPz.out (below_drewN (Below.refl _ wz) m)))
              have HH2 := Lib.hid (fun m => HG.out.has2 xn (HG.out.carry HPz.out (below_drewN (Below.refl _ wz) m)))
              go_wp2_with fail
              go_quiet ((first | (go_at_call 10; exact quiet_left (HL1.out _)) | (go_at_call 23; exact quiet_left (HL2.out _)) | (go_at_call 11; exact quiet_left (HA1.out _)) | (go_at_call 24; exact quiet_left (HA2.out _)) | (go_at_call 12; exact quiet_left (HH1.out _)) | (go_at_call 25; exact quiet_left (HH2.out _))))
              go_wp2_with fail
              go_roundw
              case rel => exact ⟨k + 1, by omega, by go_num, ⟨_, _, HG.out.carry HPz.out (below_drewN (Below.refl _ wz) _)⟩, below_drewN HBz.out _⟩
              case measure => simp [intOf]; omega
            · have n0 : (xd == 0) = false := beq_eq_false_iff_ne.2 e0
              by_cases e1 : xd = 1
              · subst e1
                go_wp2_with fail
                generalize (wr.alloc (.cells #[.int .i64 1, .int .i64 xn, .int .i64 xb] 40)) = wx at *
                refine (HG.out.pop1 HPx.out).mono ?_
                rintro e w3 ⟨rfl, hp3, hk3⟩
                have k1 := (hk3.cell (o := 1) hX hXF).trans x1
                have HB3 := Lib.hid (HBx.out.trans (hk3.below (B := w.heap.size) (fun j hj => (HG.out.low HPx.out j hj).1) HBx.out.size))
                have HP3 := Lib.hid hp3
                have hX3 : wr.heap.size < w3.heap.size := Nat.lt_of_lt_of_le hX hk3.size
                have hXF3 : ¬ more F wx w3 wr.heap.size := fun h => by rcases h with h | h; exact hXF h; omega
                clear hp3 hk3 x0 x1 x2
                go_wp2_with fail
                refine (HG.out.pop2 HP3.out).mono ?_
                rintro e wz ⟨rfl, hp4, hk4⟩
                have k2 := (hk4.cell (o := 1) hX3 hXF3).trans k1
                have HPz := Lib.hid hp4
                have HBz := Lib.hid (HB3.out.trans (hk4.below (B := w.heap.size) (fun j hj => (HG.out.low HP3.out j hj).1) HB3.out.size))
                clear hp4 hk4 k1
                have HL1 := Lib.hid (fun m => HG.out.len1 (HG.out.carry HPz.out (below_drewN (Below.refl _ wz) m)))
                have HL2 := Lib.hid (fun m => HG.out.len2 (HG.out.carry HPz.out (below_drewN (Below.refl _ wz) m)))
                have HA1 := Lib.hid (fun m => HG.out.act1 xn (HG.out.carry HPz.out (below_drewN (Below.refl _ wz) m)))
                have HA2 := Lib.hid (fun m => HG.out.act2 xn (HG.out.carry HPz.out (below_drewN (Below.refl _ wz) m)))
                have HH1 := Lib.hid (fun m => HG.out.has1 xn (HG.out.carry HPz.out (below_drewN (Below.refl _ wz) m)))
                have HH2 := Lib.hid (fun m => HG.out.has2 xn (HG.out.carry HPz.out (below_drewN (Below.refl _ wz) m)))
                go_wp2_with fail
                go_quiet ((first | (go_at_call 10; exact quiet_left (HL1.out _)) | (go_at_call 23; exact quiet_left (HL2.out _)) | (go_at_call 11; exact quiet_left (HA1.out _)) | (go_at_call 24; exact quiet_left (HA2.out _)) | (go_at_call 12; exact quiet_left (HH1.out _)) | (go_at_call 25; exact quiet_left (HH2.out _))))
                go_wp2_with fail
                go_roundw
                case rel => exact ⟨k + 1, by omega, by go_num, ⟨_, _, HG.out.carry HPz.out (below_drewN (Below.refl _ wz) _)⟩, below_drewN HBz.out _⟩
                case measure => simp [intOf]; omega
              · have n1 : (xd == 1) = false := beq_eq_false_iff_ne.2 e1
                by_cases e2 : xd = 2
                · subst e2
                  go_wp2_with fail
                  generalize (wr.alloc (.cells #[.int .i64 2, .int .i64 xn, .int .i64 xb] 40)) = wx at *
                  go_region_held3 (fun w' => w'.cell? ⟨wr.heap.size, 1, none⟩ = some (.int .i64 xn) ∧ w'.cell? ⟨wr.heap.size, 2, none⟩ = some (.int .i64 xb)) (go_keep)
                    (first | (go_at_call 15; refine (HG.out.bump1 xn xb HPd.out).mono ?_; rintro e w3 ⟨rfl, hp3, hk3⟩; have k1 := (hk3.cell (o := 1) hX hXF).trans x1; have k2 := (hk3.cell (o := 2) hX hXF).trans x2) | (go_at_call 21; refine (HG.out.bump2 xn xb hp3).mono ?_; rintro e wz ⟨rfl, hp4, hk4⟩; obtain ⟨k3, k4⟩ := two_cells hk3 hk4 hX hXF k1 k2))
                  have HPz := Lib.hid hp4
                  have HBz := Lib.hid (HBx.out.drew.trans ((hk3.below (B := w.heap.size) (fun j hj => (HG.out.low HPd.out j hj).1) HBx.out.size).trans (hk4.below (B := w.heap.size) (fun j hj => (HG.out.low hp3 j hj).1) (Nat.le_trans HBx.out.size hk3.size))))
                  clear k1 k2 k3 k4 hp3 hk3 hp4 hk4 x0 x1 x2
                  have HL1 := Lib.hid (fun m => HG.out.len1 (HG.out.carry HPz.out (below_drewN (Below.refl _ wz) m)))
                  have HL2 := Lib.hid (fun m => HG.out.len2 (HG.out.carry HPz.out (below_drewN (Below.refl _ wz) m)))
                  have HA1 := Lib.hid (fun m => HG.out.act1 xn (HG.out.carry HPz.out (below_drewN (Below.refl _ wz) m)))
                  have HA2 := Lib.hid (fun m => HG.out.act2 xn (HG.out.carry HPz.out (below_drewN (Below.refl _ wz) m)))
                  have HH1 := Lib.hid (fun m => HG.out.has1 xn (HG.out.carry HPz.out (below_drewN (Below.refl _ wz) m)))
                  have HH2 := Lib.hid (fun m => HG.out.has2 xn (HG.out.carry HPz.out (below_drewN (Below.refl _ wz) m)))
                  go_wp2_with fail
                  go_quiet ((first | (go_at_call 10; exact quiet_left (HL1.out _)) | (go_at_call 23; exact quiet_left (HL2.out _)) | (go_at_call 11; exact quiet_left (HA1.out _)) | (go_at_call 24; exact quiet_left (HA2.out _)) | (go_at_call 12; exact quiet_left (HH1.out _)) | (go_at_call 25; exact quiet_left (HH2.out _))))
                  go_wp2_with fail
                  go_roundw
                  case rel => exact ⟨k + 1, by omega, by go_num, ⟨_, _, HG.out.carry HPz.out (below_drewN (Below.refl _ wz) _)⟩, below_drewN HBz.out _⟩
                  case measure => simp [intOf]; omega
                · have n2 : (xd == 2) = false := beq_eq_false_iff_ne.2 e2
                  by_cases e3 : xd = 3
                  · subst e3
                    go_wp2_with fail
                    generalize (wr.alloc (.cells #[.int .i64 3, .int .i64 xn, .int .i64 xb] 40)) = wx at *
                    refine (HG.out.halve1 HPx.out).mono ?_
                    rintro e w3 ⟨rfl, hp3, hk3⟩
                    have k1 := (hk3.cell (o := 1) hX hXF).trans x1
                    have HB3 := Lib.hid (HBx.out.trans (hk3.below (B := w.heap.size) (fun j hj => (HG.out.low HPx.out j hj).1) HBx.out.size))
                    have HP3 := Lib.hid hp3
                    have hX3 : wr.heap.size < w3.heap.size := Nat.lt_of_lt_of_le hX hk3.size
                    clear hp3 hk3 x0 x1 x2
                    go_wp2_with fail
                    refine (HG.out.halve2 HP3.out).mono ?_
                    rintro e wz ⟨rfl, hp4, hk4⟩
                    have k2 := (hk4.cell (o := 1) hX3 hXF).trans k1
                    have HPz := Lib.hid hp4
                    have HBz := Lib.hid (HB3.out.trans (hk4.below (B := w.heap.size) (fun j hj => (HG.out.low HP3.out j hj).1) HB3.out.size))
                    clear hp4 hk4 k1
                    have HL1 := Lib.hid (fun m => HG.out.len1 (HG.out.carry HPz.out (below_drewN (Below.refl _ wz) m)))
                    have HL2 := Lib.hid (fun m => HG.out.len2 (HG.out.carry HPz.out (below_drewN (Below.refl _ wz) m)))
                    have HA1 := Lib.hid (fun m => HG.out.act1 xn (HG.out.carry HPz.out (below_drewN (Below.refl _ wz) m)))
                    have HA2 := Lib.hid (fun m => HG.out.act2 xn (HG.out.carry HPz.out (below_drewN (Below.refl _ wz) m)))
                    have HH1 := Lib.hid (fun m => HG.out.has1 xn (HG.out.carry HPz.out (below_drewN (Below.refl _ wz) m)))
                    have HH2 := Lib.hid (fun m => HG.out.has2 xn (HG.out.carry HPz.out (below_drewN (Below.refl _ wz) m)))
                    go_wp2_with fail
                    go_quiet ((first | (go_at_call 10; exact quiet_left (HL1.out _)) | (go_at_call 23; exact quiet_left (HL2.out _)) | (go_at_call 11; exact quiet_left (HA1.out _)) | (go_at_call 24; exact quiet_left (HA2.out _)) | (go_at_call 12; exact quiet_left (HH1.out _)) | (go_at_call 25; exact quiet_left (HH2.out _))))
                    go_wp2_with fail
                    go_roundw
                    case rel => exact ⟨k + 1, by omega, by go_num, ⟨_, _, HG.out.carry HPz.out (below_drewN (Below.refl _ wz) _)⟩, below_drewN HBz.out _⟩
                    case measure => simp [intOf]; omega
                  · have n3 : (xd == 3) = false := beq_eq_false_iff_ne.2 e3
                    have HPz := HPx
                    have HBz := HBx
                    go_wp2_with fail
                    generalize (wr.alloc (.cells #[.int .i64 xd, .int .i64 xn, .int .i64 xb] 40)) = wz at *
                    have HL1 := Lib.hid (fun m => HG.out.len1 (HG.out.carry HPz.out (below_drewN (Below.refl _ wz) m)))
                    have HL2 := Lib.hid (fun m => HG.out.len2 (HG.out.carry HPz.out (below_drewN (Below.refl _ wz) m)))
                    have HA1 := Lib.hid (fun m => HG.out.act1 xn (HG.out.carry HPz.out (below_drewN (Below.refl _ wz) m)))
                    have HA2 := Lib.hid (fun m => HG.out.act2 xn (HG.out.carry HPz.out (below_drewN (Below.refl _ wz) m)))
                    have HH1 := Lib.hid (fun m => HG.out.has1 xn (HG.out.carry HPz.out (below_drewN (Below.refl _ wz) m)))
                    have HH2 := Lib.hid (fun m => HG.out.has2 xn (HG.out.carry HPz.out (below_drewN (Below.refl _ wz) m)))
                    go_quiet ((first | (go_at_call 10; exact quiet_left (HL1.out _)) | (go_at_call 23; exact quiet_left (HL2.out _)) | (go_at_call 11; exact quiet_left (HA1.out _)) | (go_at_call 24; exact quiet_left (HA2.out _)) | (go_at_call 12; exact quiet_left (HH1.out _)) | (go_at_call 25; exact quiet_left (HH2.out _))))
                    go_wp2_with fail
                    go_roundw
                    case rel => exact ⟨k + 1, by omega, by go_num, ⟨_, _, HG.out.carry HPz.out (below_drewN (Below.refl _ wz) _)⟩, below_drewN HBz.out _⟩
                    case measure => simp [intOf]; omega
        · obtain rfl : k = l.length := by omega
          clear hC
          go_wp2_with fail
          refine (HG.out.sort1 HPr.out).mono ?_
          rintro e w3 ⟨A1, p1, rfl, hc1, hb1⟩
          have HP3 := Lib.hid (HG.out.carry HPr.out hb1)
          have HB3 := Lib.hid (HBr.out.trans (hb1.mono HBr.out.size))
          have HC1 := Lib.hid hc1
          clear hb1 hc1
          go_wp2_with fail
          refine (HG.out.sort2 HP3.out).mono ?_
          rintro e w4 ⟨A2, p2, rfl, hc2, hb2⟩
          have HP4 := Lib.hid (HG.out.carry HP3.out hb2)
          have HB4 := Lib.hid (HB3.out.trans (hb2.mono HB3.out.size))
          have HS := Lib.hid (same_any (c := p1) (d := p2) (T.fsort s) (HG.out.short HP4.out) (HC1.out.on hb2) hc2)
          clear hb2 hc2
          go_wp2_with fail
          refine HS.out.mono ?_
          rintro e w5 ⟨rfl, q, rfl⟩
          have HP5 := Lib.hid (HG.out.carry HP4.out (below_drewN (Below.refl _ w4) q))
          have HB5 := Lib.hid (below_drewN HB4.out q)
          generalize w4.drewN q = w5 at *
          have HW := Lib.hid (wakes_any w5)
          go_wp2_with fail
          refine (HG.out.act1 x HP5.out).mono ?_
          rintro e w' ⟨rfl, rfl⟩
          go_wp2_with fail
          refine (HG.out.act2 x HP5.out).mono ?_
          rintro e w' ⟨rfl, rfl⟩
          go_wp2_with fail
          refine (HG.out.has1 x HP5.out).mono ?_
          rintro e w' ⟨rfl, rfl⟩
          go_wp2_with fail
          refine (HG.out.has2 x HP5.out).mono ?_
          rintro e w' ⟨rfl, rfl⟩
          go_wp2_with fail
          refine HW.out.mono ?_
          rintro e w6 ⟨rfl, hb6⟩
          have HB6 := Lib.hid (HB5.out.trans (hb6.mono HB5.out.size))
          clear hb6
          go_wp2_with fail
          go_ret
          exact ⟨rfl, HB6.out⟩
    · cases hg
    · cases hg
    · clear hg
      go_wp2_with fail
      go_loopw [9] (fun v wr => ∃ k : Nat, k ≤ l.length ∧ v = .int .i64 k ∧ PlaysAt w.heap.size w P wr) (fun v _ => l.length - (intOf v).toNat)
      case atStart => exact ⟨0, Nat.zero_le _, rfl, HP.out, B2.out⟩
      case round =>
        obtain ⟨k, hk, rfl, ⟨F, s, hp⟩, hb⟩ := hrel
        have HPr := Lib.hid hp
        have HBr := Lib.hid hb
        have hC := hc.on hb
        clear hp hb
        by_cases hlt : k < l.length
        · have hlt2 : (k : Int) < (l.length : Int) := by omega
          have hx := List.getElem?_eq_getElem hlt
          generalize l[k] = y at hx
          rcases hC with h0 | ⟨b, o, rfl, hbl, hcell⟩
          · have := flat_length l; rw [h0] at this; simp at this; omega
          · obtain ⟨g0, g1, g2⟩ := flat_at l _ _ hx
            have c0 := hcell _ _ g0
            have c1 := hcell _ _ g1
            have c2 := hcell _ _ g2
            clear hcell
            obtain ⟨xd, xn, xb⟩ := y
            simp only at c0 c1 c2
            rw [← Nat.add_assoc] at c1 c2
            obtain ⟨x0, x1, x2, hX⟩ := act_box wr xd xn xb
            have HPx := Lib.hid (HG.out.carry HPr.out ((Below.refl _ wr).alloc (Nat.le_refl _) (.cells #[.int .i64 xd, .int .i64 xn, .int .i64 xb] 40)))
            have HPd := Lib.hid (HG.out.carry HPx.out ((Below.refl _ _).drew))
            have hXF : ¬ F wr.heap.size := fun h => by have := (HG.out.low HPr.out _ h).2; omega
            have HBx := Lib.hid (HBr.out.alloc HBr.out.size (.cells #[.int .i64 xd, .int .i64 xn, .int .i64 xb] 40))
            by_cases e0 : xd = 0
            · subst e0
              go_wp2_with fail
              generalize (wr.alloc (.cells #[.int .i64 0, .int .i64 xn, .int .i64 xb] 40)) = wx at *
              go_region_held3 (fun w' => w'.cell? ⟨wr.heap.size, 1, none⟩ = some (.int .i64 xn)) (go_keep)
                (first | (go_at_call 14; refine (HG.out.put1 xn HPd.out).mono ?_; rintro e w3 ⟨rfl, hp3, hk3⟩; have k1 := (hk3.cell (o := 1) hX hXF).trans x1; have k2 := (hk3.cell (o := 2) hX hXF).trans x2) | (go_at_call 19; refine (HG.out.put2 xn hp3).mono ?_; rintro e wz ⟨rfl, hp4, hk4⟩; obtain ⟨k3, k4⟩ := two_cells hk3 hk4 hX hXF k1 k2))
              have HPz := Lib.hid hp4
              have HBz := Lib.hid (HBx.out.drew.trans ((hk3.below (B := w.heap.size) (fun j hj => (HG.out.low HPd.out j hj).1) HBx.out.size).trans (hk4.below (B := w.heap.size) (fun j hj => (HG.out.low hp3 j hj).1) (Nat.le_trans HBx.out.size hk3.size))))
              clear k1 k2 k3 k4 hp3 hk3 hp4 hk4 x0 x1 x2
              have HL1 := Lib.hid (fun m => HG.out.len1 (HG.out.carry HPz.out (below_drewN (Below.refl _ wz) m)))
              have HL2 := Lib.hid (fun m => HG.out.len2 (HG.out.carry HPz.out (below_drewN (Below.refl _ wz) m)))
              have HA1 := Lib.hid (fun m => HG.out.act1 xn (HG.out.carry HPz.out (below_drewN (Below.refl _ wz) m)))
              have HA2 := Lib.hid (fun m => HG.out.act2 xn (HG.out.carry HPz.out (below_drewN (Below.refl _ wz) m)))
              have HH1 := Lib.hid (fun m => HG.out.has1 xn (HG.out.carry HPz.out (below_drewN (Below.refl _ wz) m)))
              have HH2 := Lib.hid (fun m => HG.out.has2 xn (HG.out.carry HPz.out (below_drewN (Below.refl _ wz) m)))
              go_wp2_with fail
              go_quiet ((first | (go_at_call 10; exact quiet_left (HL1.out _)) | (go_at_call 23; exact quiet_left (HL2.out _)) | (go_at_call 11; exact quiet_left (HA1.out _)) | (go_at_call 24; exact quiet_left (HA2.out _)) | (go_at_call 12; exact quiet_left (HH1.out _)) | (go_at_call 25; exact quiet_left (HH2.out _))))
              go_wp2_with fail
              go_roundw
              case rel => exact ⟨k + 1, by omega, by go_num, ⟨_, _, HG.out.carry HPz.out (below_drewN (Below.refl _ wz) _)⟩, below_drewN HBz.out _⟩
              case measure => simp [intOf]; omega
            · have n0 : (xd == 0) = false := beq_eq_false_iff_ne.2 e0
              by_cases e1 : xd = 1
              · subst e1
                go_wp2_with fail
                generalize (wr.alloc (.cells #[.int .i64 1, .int .i64 xn, .int .i64 xb] 40)) = wx at *
                refine (HG.out.pop1 HPx.out).mono ?_
                rintro e w3 ⟨rfl, hp3, hk3⟩
                have k1 := (hk3.cell (o := 1) hX hXF).trans x1
                have HB3 := Lib.hid (HBx.out.trans (hk3.below (B := w.heap.size) (fun j hj => (HG.out.low HPx.out j hj).1) HBx.out.size))
                have HP3 := Lib.hid hp3
                have hX3 : wr.heap.size < w3.heap.size := Nat.lt_of_lt_of_le hX hk3.size
                have hXF3 : ¬ more F wx w3 wr.heap.size := fun h => by rcases h with h | h; exact hXF h; omega
                clear hp3 hk3 x0 x1 x2
                go_wp2_with fail
                refine (HG.out.pop2 HP3.out).mono ?_
                rintro e wz ⟨rfl, hp4, hk4⟩
                have k2 := (hk4.cell (o := 1) hX3 hXF3).trans k1
                have HPz := Lib.hid hp4
                have HBz := Lib.hid (HB3.out.trans (hk4.below (B := w.heap.size) (fun j hj => (HG.out.low HP3.out j hj).1) HB3.out.size))
                clear hp4 hk4 k1
                have HL1 := Lib.hid (fun m => HG.out.len1 (HG.out.carry HPz.out (below_drewN (Below.refl _ wz) m)))
                have HL2 := Lib.hid (fun m => HG.out.len2 (HG.out.carry HPz.out (below_drewN (Below.refl _ wz) m)))
                have HA1 := Lib.hid (fun m => HG.out.act1 xn (HG.out.carry HPz.out (below_drewN (Below.refl _ wz) m)))
                have HA2 := Lib.hid (fun m => HG.out.act2 xn (HG.out.carry HPz.out (below_drewN (Below.refl _ wz) m)))
                have HH1 := Lib.hid (fun m => HG.out.has1 xn (HG.out.carry HPz.out (below_drewN (Below.refl _ wz) m)))
                have HH2 := Lib.hid (fun m => HG.out.has2 xn (HG.out.carry HPz.out (below_drewN (Below.refl _ wz) m)))
                go_wp2_with fail
                go_quiet ((first | (go_at_call 10; exact quiet_left (HL1.out _)) | (go_at_call 23; exact quiet_left (HL2.out _)) | (go_at_call 11; exact quiet_left (HA1.out _)) | (go_at_call 24; exact quiet_left (HA2.out _)) | (go_at_call 12; exact quiet_left (HH1.out _)) | (go_at_call 25; exact quiet_left (HH2.out _))))
                go_wp2_with fail
                go_roundw
                case rel => exact ⟨k + 1, by omega, by go_num, ⟨_, _, HG.out.carry HPz.out (below_drewN (Below.refl _ wz) _)⟩, below_drewN HBz.out _⟩
                case measure => simp [intOf]; omega
              · have n1 : (xd == 1) = false := beq_eq_false_iff_ne.2 e1
                by_cases e2 : xd = 2
                · subst e2
                  go_wp2_with fail
                  generalize (wr.alloc (.cells #[.int .i64 2, .int .i64 xn, .int .i64 xb] 40)) = wx at *
                  go_region_held3 (fun w' => w'.cell? ⟨wr.heap.size, 1, none⟩ = some (.int .i64 xn) ∧ w'.cell? ⟨wr.heap.size, 2, none⟩ = some (.int .i64 xb)) (go_keep)
                    (first | (go_at_call 15; refine (HG.out.bump1 xn xb HPd.out).mono ?_; rintro e w3 ⟨rfl, hp3, hk3⟩; have k1 := (hk3.cell (o := 1) hX hXF).trans x1; have k2 := (hk3.cell (o := 2) hX hXF).trans x2) | (go_at_call 21; refine (HG.out.bump2 xn xb hp3).mono ?_; rintro e wz ⟨rfl, hp4, hk4⟩; obtain ⟨k3, k4⟩ := two_cells hk3 hk4 hX hXF k1 k2))
                  have HPz := Lib.hid hp4
                  have HBz := Lib.hid (HBx.out.drew.trans ((hk3.below (B := w.heap.size) (fun j hj => (HG.out.low HPd.out j hj).1) HBx.out.size).trans (hk4.below (B := w.heap.size) (fun j hj => (HG.out.low hp3 j hj).1) (Nat.le_trans HBx.out.size hk3.size))))
                  clear k1 k2 k3 k4 hp3 hk3 hp4 hk4 x0 x1 x2
                  have HL1 := Lib.hid (fun m => HG.out.len1 (HG.out.carry HPz.out (below_drewN (Below.refl _ wz) m)))
                  have HL2 := Lib.hid (fun m => HG.out.len2 (HG.out.carry HPz.out (below_drewN (Below.refl _ wz) m)))
                  have HA1 := Lib.hid (fun m => HG.out.act1 xn (HG.out.carry HPz.out (below_drewN (Below.refl _ wz) m)))
                  have HA2 := Lib.hid (fun m => HG.out.act2 xn (HG.out.carry HPz.out (below_drewN (Below.refl _ wz) m)))
                  have HH1 := Lib.hid (fun m => HG.out.has1 xn (HG.out.carry HPz.out (below_drewN (Below.refl _ wz) m)))
                  have HH2 := Lib.hid (fun m => HG.out.has2 xn (HG.out.carry HPz.out (below_drewN (Below.refl _ wz) m)))
                  go_wp2_with fail
                  go_quiet ((first | (go_at_call 10; exact quiet_left (HL1.out _)) | (go_at_call 23; exact quiet_left (HL2.out _)) | (go_at_call 11; exact quiet_left (HA1.out _)) | (go_at_call 24; exact quiet_left (HA2.out _)) | (go_at_call 12; exact quiet_left (HH1.out _)) | (go_at_call 25; exact quiet_left (HH2.out _))))
                  go_wp2_with fail
                  go_roundw
                  case rel => exact ⟨k + 1, by omega, by go_num, ⟨_, _, HG.out.carry HPz.out (below_drewN (Below.refl _ wz) _)⟩, below_drewN HBz.out _⟩
                  case measure => simp [intOf]; omega
                · have n2 : (xd == 2) = false := beq_eq_false_iff_ne.2 e2
                  by_cases e3 : xd = 3
                  · subst e3
                    go_wp2_with fail
                    generalize (wr.alloc (.cells #[.int .i64 3, .int .i64 xn, .int .i64 xb] 40)) = wx at *
                    refine (HG.out.halve1 HPx.out).mono ?_
                    rintro e w3 ⟨rfl, hp3, hk3⟩
                    have k1 := (hk3.cell (o := 1) hX hXF).trans x1
                    have HB3 := Lib.hid (HBx.out.trans (hk3.below (B := w.heap.size) (fun j hj => (HG.out.low HPx.out j hj).1) HBx.out.size))
                    have HP3 := Lib.hid hp3
                    have hX3 : wr.heap.size < w3.heap.size := Nat.lt_of_lt_of_le hX hk3.size
                    clear hp3 hk3 x0 x1 x2
                    go_wp2_with fail
                    refine (HG.out.halve2 HP3.out).mono ?_
                    rintro e wz ⟨rfl, hp4, hk4⟩
                    have k2 := (hk4.cell (o := 1) hX3 hXF).trans k1
                    have HPz := Lib.hid hp4
                    have HBz := Lib.hid (HB3.out.trans (hk4.below (B := w.heap.size) (fun j hj => (HG.out.low HP3.out j hj).1) HB3.out.size))
                    clear hp4 hk4 k1
                    have HL1 := Lib.hid (fun m => HG.out.len1 (HG.out.carry HPz.out (below_drewN (Below.refl _ wz) m)))
                    have HL2 := Lib.hid (fun m => HG.out.len2 (HG.out.carry HPz.out (below_drewN (Below.refl _ wz) m)))
                    have HA1 := Lib.hid (fun m => HG.out.act1 xn (HG.out.carry HPz.out (below_drewN (Below.refl _ wz) m)))
                    have HA2 := Lib.hid (fun m => HG.out.act2 xn (HG.out.carry HPz.out (below_drewN (Below.refl _ wz) m)))
                    have HH1 := Lib.hid (fun m => HG.out.has1 xn (HG.out.carry HPz.out (below_drewN (Below.refl _ wz) m)))
                    have HH2 := Lib.hid (fun m => HG.out.has2 xn (HG.out.carry HPz.out (below_drewN (Below.refl _ wz) m)))
                    go_wp2_with fail
                    go_quiet ((first | (go_at_call 10; exact quiet_left (HL1.out _)) | (go_at_call 23; exact quiet_left (HL2.out _)) | (go_at_call 11; exact quiet_left (HA1.out _)) | (go_at_call 24; exact quiet_left (HA2.out _)) | (go_at_call 12; exact quiet_left (HH1.out _)) | (go_at_call 25; exact quiet_left (HH2.out _))))
                    go_wp2_with fail
                    go_roundw
                    case rel => exact ⟨k + 1, by omega, by go_num, ⟨_, _, HG.out.carry HPz.out (below_drewN (Below.refl _ wz) _)⟩, below_drewN HBz.out _⟩
                    case measure => simp [intOf]; omega
                  · have n3 : (xd == 3) = false := beq_eq_false_iff_ne.2 e3
                    have HPz := HPx
                    have HBz := HBx
                    go_wp2_with fail
                    generalize (wr.alloc (.cells #[.int .i64 xd, .int .i64 xn, .int .i64 xb] 40)) = wz at *
                    have HL1 := Lib.hid (fun m => HG.out.len1 (HG.out.carry HPz.out (below_drewN (Below.refl _ wz) m)))
                    have HL2 := Lib.hid (fun m => HG.out.len2 (HG.out.carry HPz.out (below_drewN (Below.refl _ wz) m)))
                    have HA1 := Lib.hid (fun m => HG.out.act1 xn (HG.out.carry HPz.out (below_drewN (Below.refl _ wz) m)))
                    have HA2 := Lib.hid (fun m => HG.out.act2 xn (HG.out.carry HPz.out (below_drewN (Below.refl _ wz) m)))
                    have HH1 := Lib.hid (fun m => HG.out.has1 xn (HG.out.carry HPz.out (below_drewN (Below.refl _ wz) m)))
                    have HH2 := Lib.hid (fun m => HG.out.has2 xn (HG.out.carry HPz.out (below_drewN (Below.refl _ wz) m)))
                    go_quiet ((first | (go_at_call 10; exact quiet_left (HL1.out _)) | (go_at_call 23; exact quiet_left (HL2.out _)) | (go_at_call 11; exact quiet_left (HA1.out _)) | (go_at_call 24; exact quiet_left (HA2.out _)) | (go_at_call 12; exact quiet_left (HH1.out _)) | (go_at_call 25; exact quiet_left (HH2.out _))))
                    go_wp2_with fail
                    go_roundw
                    case rel => exact ⟨k + 1, by omega, by go_num, ⟨_, _, HG.out.carry HPz.out (below_drewN (Below.refl _ wz) _)⟩, below_drewN HBz.out _⟩
                    case measure => simp [intOf]; omega
        · obtain rfl : k = l.length := by omega
          clear hC
          go_wp2_with fail
          refine (HG.out.sort1 HPr.out).mono ?_
          rintro e w3 ⟨A1, p1, rfl, hc1, hb1⟩
          have HP3 := Lib.hid (HG.out.carry HPr.out hb1)
          have HB3 := Lib.hid (HBr.out.trans (hb1.mono HBr.out.size))
          have HC1 := Lib.hid hc1
          clear hb1 hc1
          go_wp2_with fail
          refine (HG.out.sort2 HP3.out).mono ?_
          rintro e w4 ⟨A2, p2, rfl, hc2, hb2⟩
          have HP4 := Lib.hid (HG.out.carry HP3.out hb2)
          have HB4 := Lib.hid (HB3.out.trans (hb2.mono HB3.out.size))
          have HS := Lib.hid (same_any (c := p1) (d := p2) (T.fsort s) (HG.out.short HP4.out) (HC1.out.on hb2) hc2)
          clear hb2 hc2
          go_wp2_with fail
          refine HS.out.mono ?_
          rintro e w5 ⟨rfl, q, rfl⟩
          have HP5 := Lib.hid (HG.out.carry HP4.out (below_drewN (Below.refl _ w4) q))
          have HB5 := Lib.hid (below_drewN HB4.out q)
          generalize w4.drewN q = w5 at *
          have HW := Lib.hid (wakes_any w5)
          go_wp2_with fail
          refine (HG.out.act1 x HP5.out).mono ?_
          rintro e w' ⟨rfl, rfl⟩
          go_wp2_with fail
          refine (HG.out.act2 x HP5.out).mono ?_
          rintro e w' ⟨rfl, rfl⟩
          go_wp2_with fail
          refine (HG.out.has1 x HP5.out).mono ?_
          rintro e w' ⟨rfl, rfl⟩
          go_wp2_with fail
          refine (HG.out.has2 x HP5.out).mono ?_
          rintro e w' ⟨rfl, rfl⟩
          go_wp2_with fail
          refine HW.out.mono ?_
          rintro e w6 ⟨rfl, hb6⟩
          have HB6 := Lib.hid (HB5.out.trans (hb6.mono HB5.out.size))
          clear hb6
          go_wp2_with fail
          go_ret
          exact ⟨rfl, HB6.out⟩
  · have d2 : decide (300 < n) = true := decide_eq_true (by omega)
    have d3 : decide (n ≤ 65536) = false := decide_eq_false (by omega)
    go_enter Try.func5, Try.ntmps5
    go_wp2_with fail
    refine H1.out.mono ?_
    rintro e w1 ⟨hv, rfl, hq, hb⟩
    have B1 := Lib.hid hb
    have Q1 := Lib.hid hq
    clear hb hq
    go_wp2_with fail
    refine (H2.out _ _ Q1.out).mono ?_
    rintro e w2 ⟨gv, P, rfl, hg, hG, hP, hb⟩
    have HG := Lib.hid hG
    have B2 := Lib.hid (B1.out.trans (hb.mono B1.out.size))
    have HP := Lib.hid hP
    clear hb hP hG
    rcases hv with _ | hv <;> rcases gv with _ | gv
    · clear hg
      go_wp2_with fail
      go_loopw [9] (fun v wr => ∃ k : Nat, k ≤ l.length ∧ v = .int .i64 k ∧ PlaysAt w.heap.size w P wr) (fun v _ => l.length - (intOf v).toNat)
      case atStart => exact ⟨0, Nat.zero_le _, rfl, HP.out, B2.out⟩
      case round =>
        obtain ⟨k, hk, rfl, ⟨F, s, hp⟩, hb⟩ := hrel
        have HPr := Lib.hid hp
        have HBr := Lib.hid hb
        have hC := hc.on hb
        clear hp hb
        by_cases hlt : k < l.length
        · have hlt2 : (k : Int) < (l.length : Int) := by omega
          have hx := List.getElem?_eq_getElem hlt
          generalize l[k] = y at hx
          rcases hC with h0 | ⟨b, o, rfl, hbl, hcell⟩
          · have := flat_length l; rw [h0] at this; simp at this; omega
          · obtain ⟨g0, g1, g2⟩ := flat_at l _ _ hx
            have c0 := hcell _ _ g0
            have c1 := hcell _ _ g1
            have c2 := hcell _ _ g2
            clear hcell
            obtain ⟨xd, xn, xb⟩ := y
            simp only at c0 c1 c2
            rw [← Nat.add_assoc] at c1 c2
            obtain ⟨x0, x1, x2, hX⟩ := act_box wr xd xn xb
            have HPx := Lib.hid (HG.out.carry HPr.out ((Below.refl _ wr).alloc (Nat.le_refl _) (.cells #[.int .i64 xd, .int .i64 xn, .int .i64 xb] 40)))
            have HPd := Lib.hid (HG.out.carry HPx.out ((Below.refl _ _).drew))
            have hXF : ¬ F wr.heap.size := fun h => by have := (HG.out.low HPr.out _ h).2; omega
            have HBx := Lib.hid (HBr.out.alloc HBr.out.size (.cells #[.int .i64 xd, .int .i64 xn, .int .i64 xb] 40))
            by_cases e0 : xd = 0
            · subst e0
              go_wp2_with fail
              generalize (wr.alloc (.cells #[.int .i64 0, .int .i64 xn, .int .i64 xb] 40)) = wx at *
              go_region_held3 (fun w' => w'.cell? ⟨wr.heap.size, 1, none⟩ = some (.int .i64 xn)) (go_keep)
                (first | (go_at_call 14; refine (HG.out.put1 xn HPd.out).mono ?_; rintro e w3 ⟨rfl, hp3, hk3⟩; have k1 := (hk3.cell (o := 1) hX hXF).trans x1; have k2 := (hk3.cell (o := 2) hX hXF).trans x2) | (go_at_call 19; refine (HG.out.put2 xn hp3).mono ?_; rintro e wz ⟨rfl, hp4, hk4⟩; obtain ⟨k3, k4⟩ := two_cells hk3 hk4 hX hXF k1 k2))
              have HPz := Lib.hid hp4
              have HBz := Lib.hid (HBx.out.drew.trans ((hk3.below (B := w.heap.size) (fun j hj => (HG.out.low HPd.out j hj).1) HBx.out.size).trans (hk4.below (B := w.heap.size) (fun j hj => (HG.out.low hp3 j hj).1) (Nat.le_trans HBx.out.size hk3.size))))
              clear k1 k2 k3 k4 hp3 hk3 hp4 hk4 x0 x1 x2
              have HL1 := Lib.hid (fun m => HG.out.len1 (HG.out.carry HPz.out (below_drewN (Below.refl _ wz) m)))
              have HL2 := Lib.hid (fun m => HG.out.len2 (HG.out.carry HPz.out (below_drewN (Below.refl _ wz) m)))
              have HA1 := Lib.hid (fun m => HG.out.act1 xn (HG.out.carry HPz.out (below_drewN (Below.refl _ wz) m)))
              have HA2 := Lib.hid (fun m => HG.out.act2 xn (HG.out.carry HPz.out (below_drewN (Below.refl _ wz) m)))
              have HH1 := Lib.hid (fun m => HG.out.has1 xn (HG.out.carry HPz.out (below_drewN (Below.refl _ wz) m)))
              have HH2 := Lib.hid (fun m => HG.out.has2 xn (HG.out.carry HPz.out (below_drewN (Below.refl _ wz) m)))
              go_wp2_with fail
              go_quiet ((first | (go_at_call 10; exact quiet_left (HL1.out _)) | (go_at_call 23; exact quiet_left (HL2.out _)) | (go_at_call 11; exact quiet_left (HA1.out _)) | (go_at_call 24; exact quiet_left (HA2.out _)) | (go_at_call 12; exact quiet_left (HH1.out _)) | (go_at_call 25; exact quiet_left (HH2.out _))))
              go_wp2_with fail
              go_roundw
              case rel => exact ⟨k + 1, by omega, by go_num, ⟨_, _, HG.out.carry HPz.out (below_drewN (Below.refl _ wz) _)⟩, below_drewN HBz.out _⟩
              case measure => simp [intOf]; omega
            · have n0 : (xd == 0) = false := beq_eq_false_iff_ne.2 e0
              by_cases e1 : xd = 1
              · subst e1
                go_wp2_with fail
                generalize (wr.alloc (.cells #[.int .i64 1, .int .i64 xn, .int .i64 xb] 40)) = wx at *
                refine (HG.out.pop1 HPx.out).mono ?_
                rintro e w3 ⟨rfl, hp3, hk3⟩
                have k1 := (hk3.cell (o := 1) hX hXF).trans x1
                have HB3 := Lib.hid (HBx.out.trans (hk3.below (B := w.heap.size) (fun j hj => (HG.out.low HPx.out j hj).1) HBx.out.size))
                have HP3 := Lib.hid hp3
                have hX3 : wr.heap.size < w3.heap.size := Nat.lt_of_lt_of_le hX hk3.size
                have hXF3 : ¬ more F wx w3 wr.heap.size := fun h => by rcases h with h | h; exact hXF h; omega
                clear hp3 hk3 x0 x1 x2
                go_wp2_with fail
                refine (HG.out.pop2 HP3.out).mono ?_
                rintro e wz ⟨rfl, hp4, hk4⟩
                have k2 := (hk4.cell (o := 1) hX3 hXF3).trans k1
                have HPz := Lib.hid hp4
                have HBz := Lib.hid (HB3.out.trans (hk4.below (B := w.heap.size) (fun j hj => (HG.out.low HP3.out j hj).1) HB3.out.size))
                clear hp4 hk4 k1
                have HL1 := Lib.hid (fun m => HG.out.len1 (HG.out.carry HPz.out (below_drewN (Below.refl _ wz) m)))
                have HL2 := Lib.hid (fun m => HG.out.len2 (HG.out.carry HPz.out (below_drewN (Below.refl _ wz) m)))
                have HA1 := Lib.hid (fun m => HG.out.act1 xn (HG.out.carry HPz.out (below_drewN (Below.refl _ wz) m)))
                have HA2 := Lib.hid (fun m => HG.out.act2 xn (HG.out.carry HPz.out (below_drewN (Below.refl _ wz) m)))
                have HH1 := Lib.hid (fun m => HG.out.has1 xn (HG.out.carry HPz.out (below_drewN (Below.refl _ wz) m)))
                have HH2 := Lib.hid (fun m => HG.out.has2 xn (HG.out.carry HPz.out (below_drewN (Below.refl _ wz) m)))
                go_wp2_with fail
                go_quiet ((first | (go_at_call 10; exact quiet_left (HL1.out _)) | (go_at_call 23; exact quiet_left (HL2.out _)) | (go_at_call 11; exact quiet_left (HA1.out _)) | (go_at_call 24; exact quiet_left (HA2.out _)) | (go_at_call 12; exact quiet_left (HH1.out _)) | (go_at_call 25; exact quiet_left (HH2.out _))))
                go_wp2_with fail
                go_roundw
                case rel => exact ⟨k + 1, by omega, by go_num, ⟨_, _, HG.out.carry HPz.out (below_drewN (Below.refl _ wz) _)⟩, below_drewN HBz.out _⟩
                case measure => simp [intOf]; omega
              · have n1 : (xd == 1) = false := beq_eq_false_iff_ne.2 e1
                by_cases e2 : xd = 2
                · subst e2
                  go_wp2_with fail
                  generalize (wr.alloc (.cells #[.int .i64 2, .int .i64 xn, .int .i64 xb] 40)) = wx at *
                  go_region_held3 (fun w' => w'.cell? ⟨wr.heap.size, 1, none⟩ = some (.int .i64 xn) ∧ w'.cell? ⟨wr.heap.size, 2, none⟩ = some (.int .i64 xb)) (go_keep)
                    (first | (go_at_call 15; refine (HG.out.bump1 xn xb HPd.out).mono ?_; rintro e w3 ⟨rfl, hp3, hk3⟩; have k1 := (hk3.cell (o := 1) hX hXF).trans x1; have k2 := (hk3.cell (o := 2) hX hXF).trans x2) | (go_at_call 21; refine (HG.out.bump2 xn xb hp3).mono ?_; rintro e wz ⟨rfl, hp4, hk4⟩; obtain ⟨k3, k4⟩ := two_cells hk3 hk4 hX hXF k1 k2))
                  have HPz := Lib.hid hp4
                  have HBz := Lib.hid (HBx.out.drew.trans ((hk3.below (B := w.heap.size) (fun j hj => (HG.out.low HPd.out j hj).1) HBx.out.size).trans (hk4.below (B := w.heap.size) (fun j hj => (HG.out.low hp3 j hj).1) (Nat.le_trans HBx.out.size hk3.size))))
                  clear k1 k2 k3 k4 hp3 hk3 hp4 hk4 x0 x1 x2
                  have HL1 := Lib.hid (fun m => HG.out.len1 (HG.out.carry HPz.out (below_drewN (Below.refl _ wz) m)))
                  have HL2 := Lib.hid (fun m => HG.out.len2 (HG.out.carry HPz.out (below_drewN (Below.refl _ wz) m)))
                  have HA1 := Lib.hid (fun m => HG.out.act1 xn (HG.out.carry HPz.out (below_drewN (Below.refl _ wz) m)))
                  have HA2 := Lib.hid (fun m => HG.out.act2 xn (HG.out.carry HPz.out (below_drewN (Below.refl _ wz) m)))
                  have HH1 := Lib.hid (fun m => HG.out.has1 xn (HG.out.carry HPz.out (below_drewN (Below.refl _ wz) m)))
                  have HH2 := Lib.hid (fun m => HG.out.has2 xn (HG.out.carry HPz.out (below_drewN (Below.refl _ wz) m)))
                  go_wp2_with fail
                  go_quiet ((first | (go_at_call 10; exact quiet_left (HL1.out _)) | (go_at_call 23; exact quiet_left (HL2.out _)) | (go_at_call 11; exact quiet_left (HA1.out _)) | (go_at_call 24; exact quiet_left (HA2.out _)) | (go_at_call 12; exact quiet_left (HH1.out _)) | (go_at_call 25; exact quiet_left (HH2.out _))))
                  go_wp2_with fail
                  go_roundw
                  case rel => exact ⟨k + 1, by omega, by go_num, ⟨_, _, HG.out.carry HPz.out (below_drewN (Below.refl _ wz) _)⟩, below_drewN HBz.out _⟩
                  case measure => simp [intOf]; omega
                · have n2 : (xd == 2) = false := beq_eq_false_iff_ne.2 e2
                  by_cases e3 : xd = 3
                  · subst e3
                    go_wp2_with fail
                    generalize (wr.alloc (.cells #[.int .i64 3, .int .i64 xn, .int .i64 xb] 40)) = wx at *
                    refine (HG.out.halve1 HPx.out).mono ?_
                    rintro e w3 ⟨rfl, hp3, hk3⟩
                    have k1 := (hk3.cell (o := 1) hX hXF).trans x1
                    have HB3 := Lib.hid (HBx.out.trans (hk3.below (B := w.heap.size) (fun j hj => (HG.out.low HPx.out j hj).1) HBx.out.size))
                    have HP3 := Lib.hid hp3
                    have hX3 : wr.heap.size < w3.heap.size := Nat.lt_of_lt_of_le hX hk3.size
                    clear hp3 hk3 x0 x1 x2
                    go_wp2_with fail
                    refine (HG.out.halve2 HP3.out).mono ?_
                    rintro e wz ⟨rfl, hp4, hk4⟩
                    have k2 := (hk4.cell (o := 1) hX3 hXF).trans k1
                    have HPz := Lib.hid hp4
                    have HBz := Lib.hid (HB3.out.trans (hk4.below (B := w.heap.size) (fun j hj => (HG.out.low HP3.out j hj).1) HB3.out.size))
                    clear hp4 hk4 k1
                    have HL1 := Lib.hid (fun m => HG.out.len1 (HG.out.carry HPz.out (below_drewN (Below.refl _ wz) m)))
                    have HL2 := Lib.hid (fun m => HG.out.len2 (HG.out.carry HPz.out (below_drewN (Below.refl _ wz) m)))
                    have HA1 := Lib.hid (fun m => HG.out.act1 xn (HG.out.carry HPz.out (below_drewN (Below.refl _ wz) m)))
                    have HA2 := Lib.hid (fun m => HG.out.act2 xn (HG.out.carry HPz.out (below_drewN (Below.refl _ wz) m)))
                    have HH1 := Lib.hid (fun m => HG.out.has1 xn (HG.out.carry HPz.out (below_drewN (Below.refl _ wz) m)))
                    have HH2 := Lib.hid (fun m => HG.out.has2 xn (HG.out.carry HPz.out (below_drewN (Below.refl _ wz) m)))
                    go_wp2_with fail
                    go_quiet ((first | (go_at_call 10; exact quiet_left (HL1.out _)) | (go_at_call 23; exact quiet_left (HL2.out _)) | (go_at_call 11; exact quiet_left (HA1.out _)) | (go_at_call 24; exact quiet_left (HA2.out _)) | (go_at_call 12; exact quiet_left (HH1.out _)) | (go_at_call 25; exact quiet_left (HH2.out _))))
                    go_wp2_with fail
                    go_roundw
                    case rel => exact ⟨k + 1, by omega, by go_num, ⟨_, _, HG.out.carry HPz.out (below_drewN (Below.refl _ wz) _)⟩, below_drewN HBz.out _⟩
                    case measure => simp [intOf]; omega
                  · have n3 : (xd == 3) = false := beq_eq_false_iff_ne.2 e3
                    have HPz := HPx
                    have HBz := HBx
                    go_wp2_with fail
                    generalize (wr.alloc (.cells #[.int .i64 xd, .int .i64 xn, .int .i64 xb] 40)) = wz at *
                    have HL1 := Lib.hid (fun m => HG.out.len1 (HG.out.carry HPz.out (below_drewN (Below.refl _ wz) m)))
                    have HL2 := Lib.hid (fun m => HG.out.len2 (HG.out.carry HPz.out (below_drewN (Below.refl _ wz) m)))
                    have HA1 := Lib.hid (fun m => HG.out.act1 xn (HG.out.carry HPz.out (below_drewN (Below.refl _ wz) m)))
                    have HA2 := Lib.hid (fun m => HG.out.act2 xn (HG.out.carry HPz.out (below_drewN (Below.refl _ wz) m)))
                    have HH1 := Lib.hid (fun m => HG.out.has1 xn (HG.out.carry HPz.out (below_drewN (Below.refl _ wz) m)))
                    have HH2 := Lib.hid (fun m => HG.out.has2 xn (HG.out.carry HPz.out (below_drewN (Below.refl _ wz) m)))
                    go_quiet ((first | (go_at_call 10; exact quiet_left (HL1.out _)) | (go_at_call 23; exact quiet_left (HL2.out _)) | (go_at_call 11; exact quiet_left (HA1.out _)) | (go_at_call 24; exact quiet_left (HA2.out _)) | (go_at_call 12; exact quiet_left (HH1.out _)) | (go_at_call 25; exact quiet_left (HH2.out _))))
                    go_wp2_with fail
                    go_roundw
                    case rel => exact ⟨k + 1, by omega, by go_num, ⟨_, _, HG.out.carry HPz.out (below_drewN (Below.refl _ wz) _)⟩, below_drewN HBz.out _⟩
                    case measure => simp [intOf]; omega
        · obtain rfl : k = l.length := by omega
          clear hC
          go_wp2_with fail
          refine (HG.out.sort1 HPr.out).mono ?_
          rintro e w3 ⟨A1, p1, rfl, hc1, hb1⟩
          have HP3 := Lib.hid (HG.out.carry HPr.out hb1)
          have HB3 := Lib.hid (HBr.out.trans (hb1.mono HBr.out.size))
          have HC1 := Lib.hid hc1
          clear hb1 hc1
          go_wp2_with fail
          refine (HG.out.sort2 HP3.out).mono ?_
          rintro e w4 ⟨A2, p2, rfl, hc2, hb2⟩
          have HP4 := Lib.hid (HG.out.carry HP3.out hb2)
          have HB4 := Lib.hid (HB3.out.trans (hb2.mono HB3.out.size))
          have HS := Lib.hid (same_any (c := p1) (d := p2) (T.fsort s) (HG.out.short HP4.out) (HC1.out.on hb2) hc2)
          clear hb2 hc2
          go_wp2_with fail
          refine HS.out.mono ?_
          rintro e w5 ⟨rfl, q, rfl⟩
          have HP5 := Lib.hid (HG.out.carry HP4.out (below_drewN (Below.refl _ w4) q))
          have HB5 := Lib.hid (below_drewN HB4.out q)
          generalize w4.drewN q = w5 at *
          have HW := Lib.hid (wakes_any w5)
          go_wp2_with fail
          refine (HG.out.act1 x HP5.out).mono ?_
          rintro e w' ⟨rfl, rfl⟩
          go_wp2_with fail
          refine (HG.out.act2 x HP5.out).mono ?_
          rintro e w' ⟨rfl, rfl⟩
          go_wp2_with fail
          refine (HG.out.has1 x HP5.out).mono ?_
          rintro e w' ⟨rfl, rfl⟩
          go_wp2_with fail
          refine (HG.out.has2 x HP5.out).mono ?_
          rintro e w' ⟨rfl, rfl⟩
          go_wp2_with fail
          refine HW.out.mono ?_
          rintro e w6 ⟨rfl, hb6⟩
          have HB6 := Lib.hid (HB5.out.trans (hb6.mono HB5.out.size))
          clear hb6
          go_wp2_with fail
          go_ret
          exact ⟨rfl, HB6.out⟩
    · cases hg
    · cases hg
    · clear hg
      go_wp2_with fail
      go_loopw [9] (fun v wr => ∃ k : Nat, k ≤ l.length ∧ v = .int .i64 k ∧ PlaysAt w.heap.size w P wr) (fun v _ => l.length - (intOf v).toNat)
      case atStart => exact ⟨0, Nat.zero_le _, rfl, HP.out, B2.out⟩
      case round =>
        obtain ⟨k, hk, rfl, ⟨F, s, hp⟩, hb⟩ := hrel
        have HPr := Lib.hid hp
        have HBr := Lib.hid hb
        have hC := hc.on hb
        clear hp hb
        by_cases hlt : k < l.length
        · have hlt2 : (k : Int) < (l.length : Int) := by omega
          have hx := List.getElem?_eq_getElem hlt
          generalize l[k] = y at hx
          rcases hC with h0 | ⟨b, o, rfl, hbl, hcell⟩
          · have := flat_length l; rw [h0] at this; simp at this; omega
          · obtain ⟨g0, g1, g2⟩ := flat_at l _ _ hx
            have c0 := hcell _ _ g0
            have c1 := hcell _ _ g1
            have c2 := hcell _ _ g2
            clear hcell
            obtain ⟨xd, xn, xb⟩ := y
            simp only at c0 c1 c2
            rw [← Nat.add_assoc] at c1 c2
            obtain ⟨x0, x1, x2, hX⟩ := act_box wr xd xn xb
            have HPx := Lib.hid (HG.out.carry HPr.out ((Below.refl _ wr).alloc (Nat.le_refl _) (.cells #[.int .i64 xd, .int .i64 xn, .int .i64 xb] 40)))
            have HPd := Lib.hid (HG.out.carry HPx.out ((Below.refl _ _).drew))
            have hXF : ¬ F wr.heap.size := fun h => by have := (HG.out.low HPr.out _ h).2; omega
            have HBx := Lib.hid (HBr.out.alloc HBr.out.size (.cells #[.int .i64 xd, .int .i64 xn, .int .i64 xb] 40))
            by_cases e0 : xd = 0
            · subst e0
              go_wp2_with fail
              generalize (wr.alloc (.cells #[.int .i64 0, .int .i64 xn, .int .i64 xb] 40)) = wx at *
              go_region_held3 (fun w' => w'.cell? ⟨wr.heap.size, 1, none⟩ = some (.int .i64 xn)) (go_keep)
                (first | (go_at_call 14; refine (HG.out.put1 xn HPd.out).mono ?_; rintro e w3 ⟨rfl, hp3, hk3⟩; have k1 := (hk3.cell (o := 1) hX hXF).trans x1; have k2 := (hk3.cell (o := 2) hX hXF).trans x2) | (go_at_call 19; refine (HG.out.put2 xn hp3).mono ?_; rintro e wz ⟨rfl, hp4, hk4⟩; obtain ⟨k3, k4⟩ := two_cells hk3 hk4 hX hXF k1 k2))
              have HPz := Lib.hid hp4
              have HBz := Lib.hid (HBx.out.drew.trans ((hk3.below (B := w.heap.size) (fun j hj => (HG.out.low HPd.out j hj).1) HBx.out.size).trans (hk4.below (B := w.heap.size) (fun j hj => (HG.out.low hp3 j hj).1) (Nat.le_trans HBx.out.size hk3.size))))
              clear k1 k2 k3 k4 hp3 hk3 hp4 hk4 x0 x1 x2
              have HL1 := Lib.hid (fun m => HG.out.len1 (HG.out.carry HPz.out (below_drewN (Below.refl _ wz) m)))
              have HL2 := Lib.hid (fun m => HG.out.len2 (HG.out.carry HPz.out (below_drewN (Below.refl _ wz) m)))
              have HA1 := Lib.hid (fun m => HG.out.act1 xn (HG.out.carry HPz.out (below_drewN (Below.refl _ wz) m)))
              have HA2 := Lib.hid (fun m => HG.out.act2 xn (HG.out.carry HPz.out (below_drewN (Below.refl _ wz) m)))
              have HH1 := Lib.hid (fun m => HG.out.has1 xn (HG.out.carry HPz.out (below_drewN (Below.refl _ wz) m)))
              have HH2 := Lib.hid (fun m => HG.out.has2 xn (HG.out.carry HPz.out (below_drewN (Below.refl _ wz) m)))
              go_wp2_with fail
              go_quiet ((first | (go_at_call 10; exact quiet_left (HL1.out _)) | (go_at_call 23; exact quiet_left (HL2.out _)) | (go_at_call 11; exact quiet_left (HA1.out _)) | (go_at_call 24; exact quiet_left (HA2.out _)) | (go_at_call 12; exact quiet_left (HH1.out _)) | (go_at_call 25; exact quiet_left (HH2.out _))))
              go_wp2_with fail
              go_roundw
              case rel => exact ⟨k + 1, by omega, by go_num, ⟨_, _, HG.out.carry HPz.out (below_drewN (Below.refl _ wz) _)⟩, below_drewN HBz.out _⟩
              case measure => simp [intOf]; omega
            · have n0 : (xd == 0) = false := beq_eq_false_iff_ne.2 e0
              by_cases e1 : xd = 1
              · subst e1
                go_wp2_with fail
                generalize (wr.alloc (.cells #[.int .i64 1, .int .i64 xn, .int .i64 xb] 40)) = wx at *
                refine (HG.out.pop1 HPx.out).mono ?_
                rintro e w3 ⟨rfl, hp3, hk3⟩
                have k1 := (hk3.cell (o := 1) hX hXF).trans x1
                have HB3 := Lib.hid (HBx.out.trans (hk3.below (B := w.heap.size) (fun j hj => (HG.out.low HPx.out j hj).1) HBx.out.size))
                have HP3 := Lib.hid hp3
                have hX3 : wr.heap.size < w3.heap.size := Nat.lt_of_lt_of_le hX hk3.size
                have hXF3 : ¬ more F wx w3 wr.heap.size := fun h => by rcases h with h | h; exact hXF h; omega
                clear hp3 hk3 x0 x1 x2
                go_wp2_with fail
                refine (HG.out.pop2 HP3.out).mono ?_
                rintro e wz ⟨rfl, hp4, hk4⟩
                have k2 := (hk4.cell (o := 1) hX3 hXF3).trans k1
                have HPz := Lib.hid hp4
                have HBz := Lib.hid (HB3.out.trans (hk4.below (B := w.heap.size) (fun j hj => (HG.out.low HP3.out j hj).1) HB3.out.size))
                clear hp4 hk4 k1
                have HL1 := Lib.hid (fun m => HG.out.len1 (HG.out.carry HPz.out (below_drewN (Below.refl _ wz) m)))
                have HL2 := Lib.hid (fun m => HG.out.len2 (HG.out.carry HPz.out (below_drewN (Below.refl _ wz) m)))
                have HA1 := Lib.hid (fun m => HG.out.act1 xn (HG.out.carry HPz.out (below_drewN (Below.refl _ wz) m)))
                have HA2 := Lib.hid (fun m => HG.out.act2 xn (HG.out.carry HPz.out (below_drewN (Below.refl _ wz) m)))
                have HH1 := Lib.hid (fun m => HG.out.has1 xn (HG.out.carry HPz.out (below_drewN (Below.refl _ wz) m)))
                have HH2 := Lib.hid (fun m => HG.out.has2 xn (HG.out.carry HPz.out (below_drewN (Below.refl _ wz) m)))
                go_wp2_with fail
                go_quiet ((first | (go_at_call 10; exact quiet_left (HL1.out _)) | (go_at_call 23; exact quiet_left (HL2.out _)) | (go_at_call 11; exact quiet_left (HA1.out _)) | (go_at_call 24; exact quiet_left (HA2.out _)) | (go_at_call 12; exact quiet_left (HH1.out _)) | (go_at_call 25; exact quiet_left (HH2.out _))))
                go_wp2_with fail
                go_roundw
                case rel => exact ⟨k + 1, by omega, by go_num, ⟨_, _, HG.out.carry HPz.out (below_drewN (Below.refl _ wz) _)⟩, below_drewN HBz.out _⟩
                case measure => simp [intOf]; omega
              · have n1 : (xd == 1) = false := beq_eq_false_iff_ne.2 e1
                by_cases e2 : xd = 2
                · subst e2
                  go_wp2_with fail
                  generalize (wr.alloc (.cells #[.int .i64 2, .int .i64 xn, .int .i64 xb] 40)) = wx at *
                  go_region_held3 (fun w' => w'.cell? ⟨wr.heap.size, 1, none⟩ = some (.int .i64 xn) ∧ w'.cell? ⟨wr.heap.size, 2, none⟩ = some (.int .i64 xb)) (go_keep)
                    (first | (go_at_call 15; refine (HG.out.bump1 xn xb HPd.out).mono ?_; rintro e w3 ⟨rfl, hp3, hk3⟩; have k1 := (hk3.cell (o := 1) hX hXF).trans x1; have k2 := (hk3.cell (o := 2) hX hXF).trans x2) | (go_at_call 21; refine (HG.out.bump2 xn xb hp3).mono ?_; rintro e wz ⟨rfl, hp4, hk4⟩; obtain ⟨k3, k4⟩ := two_cells hk3 hk4 hX hXF k1 k2))
                  have HPz := Lib.hid hp4
                  have HBz := Lib.hid (HBx.out.drew.trans ((hk3.below (B := w.heap.size) (fun j hj => (HG.out.low HPd.out j hj).1) HBx.out.size).trans (hk4.below (B := w.heap.size) (fun j hj => (HG.out.low hp3 j hj).1) (Nat.le_trans HBx.out.size hk3.size))))
                  clear k1 k2 k3 k4 hp3 hk3 hp4 hk4 x0 x1 x2
                  have HL1 := Lib.hid (fun m => HG.out.len1 (HG.out.carry HPz.out (below_drewN (Below.refl _ wz) m)))
                  have HL2 := Lib.hid (fun m => HG.out.len2 (HG.out.carry HPz.out (below_drewN (Below.refl _ wz) m)))
                  have HA1 := Lib.hid (fun m => HG.out.act1 xn (HG.out.carry HPz.out (below_drewN (Below.refl _ wz) m)))
                  have HA2 := Lib.hid (fun m => HG.out.act2 xn (HG.out.carry HPz.out (below_drewN (Below.refl _ wz) m)))
                  have HH1 := Lib.hid (fun m => HG.out.has1 xn (HG.out.carry HPz.out (below_drewN (Below.refl _ wz) m)))
                  have HH2 := Lib.hid (fun m => HG.out.has2 xn (HG.out.carry HPz.out (below_drewN (Below.refl _ wz) m)))
                  go_wp2_with fail
                  go_quiet ((first | (go_at_call 10; exact quiet_left (HL1.out _)) | (go_at_call 23; exact quiet_left (HL2.out _)) | (go_at_call 11; exact quiet_left (HA1.out _)) | (go_at_call 24; exact quiet_left (HA2.out _)) | (go_at_call 12; exact quiet_left (HH1.out _)) | (go_at_call 25; exact quiet_left (HH2.out _))))
                  go_wp2_with fail
                  go_roundw
                  case rel => exact ⟨k + 1, by omega, by go_num, ⟨_, _, HG.out.carry HPz.out (below_drewN (Below.refl _ wz) _)⟩, below_drewN HBz.out _⟩
                  case measure => simp [intOf]; omega
                · have n2 : (xd == 2) = false := beq_eq_false_iff_ne.2 e2
                  by_cases e3 : xd = 3
                  · subst e3
                    go_wp2_with fail
                    generalize (wr.alloc (.cells #[.int .i64 3, .int .i64 xn, .int .i64 xb] 40)) = wx at *
                    refine (HG.out.halve1 HPx.out).mono ?_
                    rintro e w3 ⟨rfl, hp3, hk3⟩
                    have k1 := (hk3.cell (o := 1) hX hXF).trans x1
                    have HB3 := Lib.hid (HBx.out.trans (hk3.below (B := w.heap.size) (fun j hj => (HG.out.low HPx.out j hj).1) HBx.out.size))
                    have HP3 := Lib.hid hp3
                    have hX3 : wr.heap.size < w3.heap.size := Nat.lt_of_lt_of_le hX hk3.size
                    clear hp3 hk3 x0 x1 x2
                    go_wp2_with fail
                    refine (HG.out.halve2 HP3.out).mono ?_
                    rintro e wz ⟨rfl, hp4, hk4⟩
                    have k2 := (hk4.cell (o := 1) hX3 hXF).trans k1
                    have HPz := Lib.hid hp4
                    have HBz := Lib.hid (HB3.out.trans (hk4.below (B := w.heap.size) (fun j hj => (HG.out.low HP3.out j hj).1) HB3.out.size))
                    clear hp4 hk4 k1
                    have HL1 := Lib.hid (fun m => HG.out.len1 (HG.out.carry HPz.out (below_drewN (Below.refl _ wz) m)))
                    have HL2 := Lib.hid (fun m => HG.out.len2 (HG.out.carry HPz.out (below_drewN (Below.refl _ wz) m)))
                    have HA1 := Lib.hid (fun m => HG.out.act1 xn (HG.out.carry HPz.out (below_drewN (Below.refl _ wz) m)))
                    have HA2 := Lib.hid (fun m => HG.out.act2 xn (HG.out.carry HPz.out (below_drewN (Below.refl _ wz) m)))
                    have HH1 := Lib.hid (fun m => HG.out.has1 xn (HG.out.carry HPz.out (below_drewN (Below.refl _ wz) m)))
                    have HH2 := Lib.hid (fun m => HG.out.has2 xn (HG.out.carry HPz.out (below_drewN (Below.refl _ wz) m)))
                    go_wp2_with fail
                    go_quiet ((first | (go_at_call 10; exact quiet_left (HL1.out _)) | (go_at_call 23; exact quiet_left (HL2.out _)) | (go_at_call 11; exact quiet_left (HA1.out _)) | (go_at_call 24; exact quiet_left (HA2.out _)) | (go_at_call 12; exact quiet_left (HH1.out _)) | (go_at_call 25; exact quiet_left (HH2.out _))))
                    go_wp2_with fail
                    go_roundw
                    case rel => exact ⟨k + 1, by omega, by go_num, ⟨_, _, HG.out.carry HPz.out (below_drewN (Below.refl _ wz) _)⟩, below_drewN HBz.out _⟩
                    case measure => simp [intOf]; omega
                  · have n3 : (xd == 3) = false := beq_eq_false_iff_ne.2 e3
                    have HPz := HPx
                    have HBz := HBx
                    go_wp2_with fail
                    generalize (wr.alloc (.cells #[.int .i64 xd, .int .i64 xn, .int .i64 xb] 40)) = wz at *
                    have HL1 := Lib.hid (fun m => HG.out.len1 (HG.out.carry HPz.out (below_drewN (Below.refl _ wz) m)))
                    have HL2 := Lib.hid (fun m => HG.out.len2 (HG.out.carry HPz.out (below_drewN (Below.refl _ wz) m)))
                    have HA1 := Lib.hid (fun m => HG.out.act1 xn (HG.out.carry HPz.out (below_drewN (Below.refl _ wz) m)))
                    have HA2 := Lib.hid (fun m => HG.out.act2 xn (HG.out.carry HPz.out (below_drewN (Below.refl _ wz) m)))
                    have HH1 := Lib.hid (fun m => HG.out.has1 xn (HG.out.carry HPz.out (below_drewN (Below.refl _ wz) m)))
                    have HH2 := Lib.hid (fun m => HG.out.has2 xn (HG.out.carry HPz.out (below_drewN (Below.refl _ wz) m)))
                    go_quiet ((first | (go_at_call 10; exact quiet_left (HL1.out _)) | (go_at_call 23; exact quiet_left (HL2.out _)) | (go_at_call 11; exact quiet_left (HA1.out _)) | (go_at_call 24; exact quiet_left (HA2.out _)) | (go_at_call 12; exact quiet_left (HH1.out _)) | (go_at_call 25; exact quiet_left (HH2.out _))))
                    go_wp2_with fail
                    go_roundw
                    case rel => exact ⟨k + 1, by omega, by go_num, ⟨_, _, HG.out.carry HPz.out (below_drewN (Below.refl _ wz) _)⟩, below_drewN HBz.out _⟩
                    case measure => simp [intOf]; omega
        · obtain rfl : k = l.length := by omega
          clear hC
          go_wp2_with fail
          refine (HG.out.sort1 HPr.out).mono ?_
          rintro e w3 ⟨A1, p1, rfl, hc1, hb1⟩
          have HP3 := Lib.hid (HG.out.carry HPr.out hb1)
          have HB3 := Lib.hid (HBr.out.trans (hb1.mono HBr.out.size))
          have HC1 := Lib.hid hc1
          clear hb1 hc1
          go_wp2_with fail
          refine (HG.out.sort2 HP3.out).mono ?_
          rintro e w4 ⟨A2, p2, rfl, hc2, hb2⟩
          have HP4 := Lib.hid (HG.out.carry HP3.out hb2)
          have HB4 := Lib.hid (HB3.out.trans (hb2.mono HB3.out.size))
          have HS := Lib.hid (same_any (c := p1) (d := p2) (T.fsort s) (HG.out.short HP4.out) (HC1.out.on hb2) hc2)
          clear hb2 hc2
          go_wp2_with fail
          refine HS.out.mono ?_
          rintro e w5 ⟨rfl, q, rfl⟩
          have HP5 := Lib.hid (HG.out.carry HP4.out (below_drewN (Below.refl _ w4) q))
          have HB5 := Lib.hid (below_drewN HB4.out q)
          generalize w4.drewN q = w5 at *
          have HW := Lib.hid (wakes_any w5)
          go_wp2_with fail
          refine (HG.out.act1 x HP5.out).mono ?_
          rintro e w' ⟨rfl, rfl⟩
          go_wp2_with fail
          refine (HG.out.act2 x HP5.out).mono ?_
          rintro e w' ⟨rfl, rfl⟩
          go_wp2_with fail
          refine (HG.out.has1 x HP5.out).mono ?_
          rintro e w' ⟨rfl, rfl⟩
          go_wp2_with fail
          refine (HG.out.has2 x HP5.out).mono ?_
          rintro e w' ⟨rfl, rfl⟩
          go_wp2_with fail
          refine HW.out.mono ?_
          rintro e w6 ⟨rfl, hb6⟩
          have HB6 := Lib.hid (HB5.out.trans (hb6.mono HB5.out.size))
          clear hb6
          go_wp2_with fail
          go_ret
          exact ⟨rfl, HB6.out⟩
set_option maxRecDepth 100000 in
set_option maxHeartbeats 3200000 in
theorem plays_far {w : World} (n : Int) (A : Option Addr) (cap : Nat) (l : List Act3) (x : Int) (hl : (l.length : Int) ≤ 9223372036854775807) (h : 300 < l.length ∨ (300 < n ∧ n ≤ 65536)) :
    Calls Try.prog 5 #[.int .i64 n, .slice A l.length cap, .int .i64 x] w fun e w' => e = .returned (.bool true) ∧ Below w.heap.size w w' := by
  generalize hL : l.length = L at *
  have HW := Lib.hid (wakes_any w)
  by_cases h1 : 300 < L
  · have h1' : (300 : Int) < (L : Int) := by omega
    go_enter Try.func5, Try.ntmps5
    go_wp2_with fail
    refine HW.out.mono ?_
    rintro e w1 ⟨rfl, hb⟩
    go_wp2_with fail
    go_ret
    exact ⟨rfl, hb⟩
  · have h1' : ¬ (300 : Int) < (L : Int) := by omega
    have d1 := decide_eq_false h1'
    have h2 : 300 < n := by omega
    have h3 : n ≤ 65536 := by omega
    go_enter Try.func5, Try.ntmps5
    go_wp2_with fail
    refine HW.out.mono ?_
    rintro e w1 ⟨rfl, hb⟩
    go_wp2_with fail
    go_ret
    exact ⟨rfl, hb⟩
theorem heapPlays_all {w : World} (n : Int) (l : List Act3) (A : Option Addr) (cap : Nat) (x : Int) (hc : Cells w A (flat l)) (hl : l.length ≤ cap) (hm : cap ≤ 9223372036854775807) :
    Calls Try.prog 5 #[.int .i64 n, .slice A l.length cap, .int .i64 x] w fun e w' => e = .returned (.bool true) ∧ Below w.heap.size w w' := by
  by_cases h : 300 < l.length ∨ (300 < n ∧ n ≤ 65536)
  · exact plays_far n A cap l x (by omega) h
  · by_cases hn : 0 ≤ n ∧ n ≤ 300
    · obtain ⟨k, rfl⟩ := Int.eq_ofNat_of_zero_le hn.1
      refine plays_near (T := abTells) (Q := fun hv w1 => ∃ H, hv = some ⟨H, 0, none⟩ ∧ At (fun k => w.heap.size ≤ k ∧ k < w1.heap.size) w1 H (newA k) ∧ w.heap.size ≤ w1.heap.size) k (by omega) A cap l x hc (by omega) ?_ ?_
      · exact (b_new k (by omega) w).mono fun e w' ⟨H, he, ha, hb⟩ => ⟨_, he, ⟨H, rfl, ha.1.within, ha.2⟩, hb⟩
      · rintro hv w1 ⟨H, rfl, ha, hz⟩
        refine (rnew_any k (by omega) w1).mono fun e w' ⟨G, ga, gi, he, hm, hl, hb⟩ => ⟨_, _, he, rfl, both_game w.heap.size H G ga gi, ⟨fun j => w.heap.size ≤ j ∧ j < w'.heap.size, newA k, ?_⟩, hb⟩
        have := hb.size
        obtain ⟨ca, ci, g1⟩ := hm.obj
        obtain ⟨cs, g2, _⟩ := hm.act
        obtain ⟨cp, g3, _⟩ := hm.inn
        have e1 := lt_of_block g1
        have e2 := lt_of_block g2
        have e3 := lt_of_block g3
        exact ⟨(ha.below hb).mono fun j hj => ⟨⟨hj.1, by omega⟩, by omega⟩, hm, ⟨⟨by omega, e1⟩, ⟨by omega, e2⟩, ⟨by omega, e3⟩⟩, fun j hj => hj, by omega⟩
    · refine plays_near (T := nilTells) (Q := fun hv w1 => hv = none ∧ w = w1) n (by omega) A cap l x hc (by omega) ?_ ?_
      · exact (new_bad n (by omega) w).mono fun e w' ⟨he, hw⟩ => ⟨none, he, ⟨rfl, hw⟩, by subst hw; exact Below.refl _ _⟩
      · rintro hv w1 ⟨rfl, rfl⟩
        exact (rnew_bad n (by omega) w).mono fun e w' ⟨he, hw⟩ => by subst hw; exact ⟨none, NilAt w.heap.size, he, rfl, nil_game _, ⟨fun _ => False, (), fun _ h => h, Nat.le_refl _⟩, Below.refl _ _⟩
end Go.Proofs.Ytdelfgilcfoaoaa.Hp
