import Derived.Test.YtbchcipjpcdhfaaGreatDoorMr
import Derived.Test.YtbchcipjpcdhfaaGreatDoorMl
/- merged by wip/merge.py from: R8Params R8Option -/
/- The document's reading of commands: params. -/
namespace Go.Proofs.YtbchcipjpcdhfaaGreatDoor.Cm
open Go.RowKit Go.Proofs.YtbchcipjpcdhfaaGreatDoor.Dt

def RParams (w : World) (x : Sexp) (e : Ending) (w' : World) : Prop :=
  ∃ (l : List (ByteArray × ByteArray)) (A' : Option Addr) (c' : Nat), (e = .returned (.tuple #[.slice A' l.length c', .bool (paramsN x).isSome]) ∧ l.length ≤ c' ∧ c' ≤ maxLen) ∧ NewLies 2 PairR w.heap.size w' A' l ∧ (∀ l', paramsN x = some l' → l = l') ∧ Below w.heap.size w w'
theorem pairN_two {y : Sexp} {a b : ByteArray} (h : namesN y = some [a, b]) : pairN y = some (a, b) := by unfold pairN; rw [h]; rfl
theorem pairN_len {y : Sexp} {l : List ByteArray} (h : namesN y = some l) (hl : l.length ≠ 2) : pairN y = none := by
  unfold pairN
  rw [h, Option.bind_some]
  split
  · exact absurd rfl hl
  · rfl
theorem pairN_no {y : Sexp} (h : namesN y = none) : pairN y = none := by unfold pairN; rw [h]; rfl
theorem two_strs {l : List ByteArray} (h : l.length = 2) : ∃ a b, l = [a, b] := by
  match l, h with
  | [a, b], _ => exact ⟨a, b, rfl⟩
set_option maxHeartbeats 3200000 in
theorem rparams_any {w : World} {x : Sexp} {A : Option Addr} {c : Nat} (hr : SexpR w [.int .i8 x.kind, .string x.text, .slice A x.l.length c] x) :
    Calls Tryz.prog 84 #[agS x A c] w (RParams w x) := by
  obtain ⟨_, _, e, hl, _, _, _, hlb, _⟩ := hr.open'
  simp only [List.cons.injEq, Value.slice.injEq, and_true, true_and] at e
  obtain ⟨rfl, rfl⟩ := e
  have HL := Lib.hid hl
  have HLen := Lib.hid (show x.l.length ≤ 2932031007402 by omega)
  have HB := Lib.hid ((Below.refl w.heap.size w).alloc (Nat.le_refl _) (.cells #[.int .i8 x.kind, .string x.text, .slice A x.l.length c] 25))
  have NX := Lib.hid (blk_new w (.cells #[.int .i8 x.kind, .string x.text, .slice A x.l.length c] 25))
  have HPn := Lib.hid (show paramsN x = if x.kind = 3 then eachO pairN x.l else none by unfold paramsN listN; split <;> rfl)
  have hk : (x.kind == 3) = decide (x.kind = 3) := rfl
  obtain ⟨i0, hi0, z0, z1, z2⟩ := info_parts info_pair
  have I0 := Lib.hid hi0
  have I1 := Lib.hid z0
  have I2 := Lib.hid z1
  have I3 := Lib.hid z2
  clear hr hl hlb hi0 z0 z1 z2
  unfold agS RParams
  generalize paramsN x = nx at *
  generalize x.l = ys at *
  generalize x.kind = xk at *
  generalize x.text = xt at *
  go_enter Tryz.func84, Tryz.ntmps84
  go_upto_region 2 with fail
  generalize w.alloc (.cells #[.int .i8 xk, .string xt, .slice A ys.length c] 25) = w1 at *
  go_wp2_with fail
  go_loopw [4, 5] (fun v' i' wr => ∃ k : Nat, k ≤ ys.length ∧ i' = .int .i64 k ∧ ∃ ps : List (ByteArray × ByteArray), eachO pairN (ys.take k) = some ps ∧ Grows 2 PairR 56 w w1.heap.size wr v' ps ∧ Below w1.heap.size w1 wr) (fun _ i' _ => ys.length - (intOf i').toNat)
  case atStart => exact ⟨0, Nat.zero_le _, rfl, [], rfl, Grows.nil _, Below.refl _ _⟩
  case round =>
    obtain ⟨k, hk1, rfl, ps, heo, hg, hb⟩ := hrel
    have HG := Lib.hid hg
    have HEo := Lib.hid heo
    have HBr := Lib.hid hb
    have HBW := Lib.hid (HB.out.trans (hb.mono HB.out.size))
    obtain ⟨x0, x1, x2, _⟩ := three_cells ((hb.block _ (lt_of_block NX.out)).trans NX.out)
    obtain ⟨vals, ho, hrr⟩ := hg.row
    have hlk : ps.length = k := by rw [eachO_len heo]; simp; omega
    subst hlk
    have hvl : vals.length = ps.length * 2 := ho.1
    obtain ⟨Ao, co, rfl⟩ := shape_of_owns ho
    have HOw := Lib.hid ho
    have HRr := Lib.hid hrr
    have HVl := Lib.hid hvl
    have HSz := Lib.hid hb.size
    clear hg ho hrr hvl hb heo
    by_cases hlt : ps.length < ys.length
    · have hlt2 : (ps.length : Int) < (ys.length : Int) := by omega
      have hyk := List.getElem?_eq_getElem hlt
      generalize ys[ps.length] = y at hyk
      obtain ⟨bb, o, A2, c2, rfl, hbl, e0, e1, e2, hr2⟩ := sexp_cells (HL.out.on SexpR.lasts HBW.out) hyk
      have HNm := Lib.hid (rnames_any hr2)
      have HYk := Lib.hid hyk
      clear hr2 hyk
      unfold agS at *
      go_wp2_with fail
      refine HNm.out.mono ?_
      rintro e w2 ⟨l, A3, c3, ⟨rfl, hl1, hl2⟩, hnl, heq, hb2⟩
      have HB2 := Lib.hid hb2
      have HBn := Lib.hid (HBW.out.trans (hb2.mono HBW.out.size))
      have HNl := Lib.hid hnl
      clear x0 x1 x2 e0 e1 e2 hb2 hnl hl1 hl2
      have HFail := Lib.hid (show pairN y = none → ∃ (l : List (ByteArray × ByteArray)) (A' : Option Addr) (c' : Nat), (Ending.returned (.tuple #[.slice none 0 0, .bool false]) = .returned (.tuple #[.slice A' l.length c', .bool nx.isSome]) ∧ l.length ≤ c' ∧ c' ≤ maxLen) ∧ NewLies 2 PairR w.heap.size w2 A' l ∧ (∀ l', nx = some l' → l = l') ∧ Below w.heap.size w w2 from fun hp => by
        have hn : nx = none := by
          rw [HPn.out, eachO_none hp (List.mem_of_getElem? HYk.out)]
          split <;> rfl
        exact ⟨[], none, 0, ⟨by rw [hn]; rfl, Nat.le_refl _, Nat.zero_le _⟩, .inl rfl, fun l' h => (by rw [hn] at h; cases h), HBn.out⟩)
      cases hny : namesN y with
      | none =>
        have HRet := Lib.hid (HFail.out (pairN_no hny))
        clear heq hny
        go_wp2_with fail
        go_ret2
        exact HRet.out
      | some l0 =>
        have hll : l = l0 := heq l0 hny
        subst hll
        by_cases h2 : l.length = 2
        · have h2' : ((l.length : Int) != 2) = false := by simp; omega
          obtain ⟨a, b, rfl⟩ := two_strs h2
          have HPy := Lib.hid (pairN_two hny)
          have hlies : Lies 1 StrR w2 A3 [a, b] := HNl.out.lies
          obtain ⟨bn, on, rfl, c0⟩ := str_get hlies (k := 0) (by simp)
          obtain ⟨bn', on', e7, c1⟩ := str_get hlies (k := 1) (by simp)
          simp only [Option.some.injEq, Addr.mk.injEq, and_true] at e7
          obtain ⟨rfl, rfl⟩ := e7
          have hs0 := str_size hlies (k := 0) (by simp)
          have hs1 := str_size hlies (k := 1) (by simp)
          have hbn : wr.heap.size ≤ bn ∧ bn < w2.heap.size := by
            rcases HNl.out with h | ⟨b', o', h, hge, hlt, _⟩
            · cases h
            · simp only [Option.some.injEq, Addr.mk.injEq, and_true] at h
              rw [h.1]; exact ⟨hge, hlt⟩
          replace c0 : w2.cell? ⟨bn, on, none⟩ = some (.string a) := by simpa using c0
          replace c1 : w2.cell? ⟨bn, on + 1, none⟩ = some (.string b) := by simpa using c1
          replace hs0 : (a.size : Int) ≤ 140737488351232 := hs0
          replace hs1 : (b.size : Int) ≤ 140737488351232 := hs1
          have C0 := Lib.hid c0
          have C1 := Lib.hid c1
          have HBn2 := Lib.hid hbn
          have HSab := Lib.hid (And.intro hs0 hs1)
          have hln : ([a, b] : List ByteArray).length = 2 := rfl
          rw [hln]
          clear heq hny hlies h2' hs0 hs1 hbn hln h2
          go_wp2_with fail
          have HOw2 := Lib.hid (owns_keep HOw.out (Keeps.of_below HB2.out (fun _ => False)) (fun _ h => h.elim))
          have HOwA := Lib.hid (show World.ownsRow (w2.drew.alloc (.cells #[.string a, .string b] 56)) w1.heap.size 56 2 (.slice Ao ps.length co) ps.length vals from HOw2.out.drew.alloc _)
          have HCA := Lib.hid (Cells.new w2.drew [.string a, .string b] 56 (0, 0))
          have HSA := Lib.hid (show w1.heap.size ≤ w2.heap.size from Nat.le_trans HSz.out HB2.out.size)
          have hk48 : ps.length < 2932031007402 := Nat.lt_of_lt_of_le hlt HLen.out
          refine wp_region_held_drew (S := fun W => W.cell? ⟨bn, on, none⟩ = some (.string a) ∧ W.cell? ⟨bn, on + 1, none⟩ = some (.string b)) (by kernel_rfl) (⟨c0, c1⟩) (fun hHeld => ?_)
          clear c0 c1
          refine wpAnyH_take (i := 0) (oi := Oper.mk _ _ _ _ _ _) (v := ?_) rfl (by kernel_rfl) (by kernel_rfl) (by kernel_rfl) (fun _ _ _ h => h) (Or.inl ⟨by rfl, ?_⟩) (by assumption) ?_
          rotate_left
          · (intro w hSw; (try dsimp only at hSw); go_simp; try with_reducible rfl)
          try simp only [Act.put, List.setIfInBounds_toArray, List.set_cons_zero, List.set_cons_succ]
          refine wpAnyH_take (i := 1) (oi := Oper.mk _ _ _ _ _ _) (v := ?_) rfl (by kernel_rfl) (by kernel_rfl) (by kernel_rfl) (fun _ _ _ h => h) (Or.inl ⟨by rfl, ?_⟩) (by assumption) ?_
          rotate_left
          · (intro w hSw; (try dsimp only at hSw); go_simp; try with_reducible rfl)
          try simp only [Act.put, List.setIfInBounds_toArray, List.set_cons_zero, List.set_cons_succ]
          refine wpAnyH_take (i := 2) (oi := Oper.mk _ _ _ _ _ _) (v := ?_) rfl (by kernel_rfl) (by kernel_rfl) (by kernel_rfl) (fun _ _ _ h => h) (Or.inl ⟨by rfl, ?_⟩) (by assumption) ?_
          rotate_left
          · (intro w hSw; (try dsimp only at hSw); go_simp; try with_reducible rfl)
          try simp only [Act.put, List.setIfInBounds_toArray, List.set_cons_zero, List.set_cons_succ]
          refine wpAnyH_take (i := 3) (oi := Oper.mk _ _ _ _ _ _) (v := ?_) rfl (by kernel_rfl) (by kernel_rfl) (by kernel_rfl) (fun _ _ _ h => h) (Or.inl ⟨by rfl, ?_⟩) (by assumption) ?_
          rotate_left
          · (intro w hSw; (try dsimp only at hSw); go_simp; try with_reducible rfl)
          try simp only [Act.put, List.setIfInBounds_toArray, List.set_cons_zero, List.set_cons_succ]
          refine wpAnyH_take (i := 4) (oi := Oper.mk _ _ _ _ _ _) (v := ?_) rfl (by kernel_rfl) (by kernel_rfl) (by kernel_rfl) (fun _ _ _ h => h) (Or.inl ⟨by rfl, ?_⟩) (by assumption) ?_
          rotate_left
          · (intro w hSw; (try dsimp only at hSw); go_simp; try with_reducible rfl)
          try simp only [Act.put, List.setIfInBounds_toArray, List.set_cons_zero, List.set_cons_succ]
          refine wpAnyH_take (i := 5) (oi := Oper.mk _ _ _ _ _ _) (v := ?_) rfl (by kernel_rfl) (by kernel_rfl) (by kernel_rfl) (fun _ _ _ h => h) (Or.inl ⟨by rfl, ?_⟩) (by assumption) ?_
          rotate_left
          · (intro w hSw; (try dsimp only at hSw); go_simp; try with_reducible rfl)
          try simp only [Act.put, List.setIfInBounds_toArray, List.set_cons_zero, List.set_cons_succ]
          refine wpAnyH_take (i := 6) (oi := Oper.mk _ _ _ _ _ _) (v := ?_) rfl (by kernel_rfl) (by kernel_rfl) (by kernel_rfl) (fun _ _ _ h => h) (Or.inl ⟨by rfl, ?_⟩) (by assumption) ?_
          rotate_left
          · (intro w hSw; (try dsimp only at hSw); go_simp; try with_reducible rfl)
          try simp only [Act.put, List.setIfInBounds_toArray, List.set_cons_zero, List.set_cons_succ]
          refine wpAnyH_take (i := 7) (oi := Oper.mk _ _ _ _ _ _) (v := ?_) rfl (by kernel_rfl) (by kernel_rfl) (by kernel_rfl) (fun _ _ _ h => h) (Or.inl ⟨by rfl, ?_⟩) (by assumption) ?_
          rotate_left
          · (intro w hSw; (try dsimp only at hSw); go_simp; try with_reducible rfl)
          try simp only [Act.put, List.setIfInBounds_toArray, List.set_cons_zero, List.set_cons_succ]
          refine wpAnyH_ready (rs := [8]) (by kernel_rfl) (by simp) ?_
          refine AllReadyH.cons (o := Oper.mk _ _ _ _ _ _) rfl (fun K hK => ?_) AllReadyH.nil
          go_simp
          refine hK.out _ _ (⟨(((Below.refl w2.heap.size w2).drew.alloc (Nat.le_refl _) _).cell (p := ⟨bn, on, none⟩) HBn2.out.2).trans C0.out, (((Below.refl w2.heap.size w2).drew.alloc (Nat.le_refl _) _).cell (p := ⟨bn, on + 1, none⟩) HBn2.out.2).trans C1.out⟩) (fun hHeld => ?_)
          clear hK K
          try simp only [Act.put, List.setIfInBounds_toArray, List.set_cons_zero, List.set_cons_succ]
          refine wpAnyH_ready (rs := [9]) (by kernel_rfl) (by simp) ?_
          refine AllReadyH.cons (o := Oper.mk _ _ _ _ _ _) rfl (fun K hK => ?_) AllReadyH.nil
          (refine step_append_at (by rfl) _ _ _ (by rfl) w1.heap.size 56 i0 (.agg #[.string { data := #[] }, .string { data := #[] }]) 2 32 Tryz.underlying30 I0.out I1.out I2.out I3.out rfl (by decide) (.slice Ao ps.length co) ps.length vals (by rfl) HOwA.out (some ⟨w2.heap.size, 0, none⟩) 1 1 [.string a, .string b] (by rfl) rfl HCA.out (by simp [Value.oneCell']) (by unfold maxLen; omega) (by omega) (by have := HSA.out; simp; omega) ?_; intro v' w8 hown hgr hat; obtain ⟨A8, c8, rfl⟩ := shape_of_owns hown; have hcb : ∀ j, w8.cell? ⟨bn, j, none⟩ = w2.cell? ⟨bn, j, none⟩ := fun j => (World.cell?_of_block (hgr.block bn (by have := HBn2.out.2; simp; omega) (fun e => by have h1 := (HOw.out.lt bn e.symm).2; have h2 := HBn2.out.1; omega))).trans (((Below.refl w2.heap.size w2).drew.alloc (Nat.le_refl _) _).cell (p := ⟨bn, j, none⟩) HBn2.out.2))
          refine hK.out _ _ (⟨(hcb _).trans C0.out, (hcb _).trans C1.out⟩) (fun hHeld => ?_)
          clear hK K
          try simp only [Act.put, List.setIfInBounds_toArray, List.set_cons_zero, List.set_cons_succ]
          have HG8 := Lib.hid (show Grows 2 PairR 56 w w1.heap.size w8 (.slice A8 (ps.length + 1) c8) (ps ++ [(a, b)]) from
            Grows.push (vs := [.string a, .string b]) HVl.out HRr.out hown ⟨rfl, HSab.out⟩ rfl)
          have HB8 := Lib.hid ((((HBr.out.trans (HB2.out.mono HSz.out)).drew).alloc HSA.out _).grown hgr (by have := HSA.out; simp; omega) (fun q hq => (HOwA.out.lt q hq).1))
          have HEn := Lib.hid (show eachO pairN (ys.take (ps.length + 1)) = some (ps ++ [(a, b)]) by
            rw [List.take_add_one, HYk.out]
            show eachO pairN (ys.take ps.length ++ [y]) = _
            rw [eachO_snoc y HEo.out, HPy.out]
            rfl)
          clear hown hgr hat hcb
          refine wpAnyH_ready (rs := [10]) (by kernel_rfl) (by simp) ?_
          refine AllReadyH.cons (o := Oper.mk _ _ _ _ _ _) rfl (fun K hK => ?_) AllReadyH.nil
          go_simp
          refine hK.out _ _ ((by assumption)) (fun hHeld => ?_)
          clear hK K
          try simp only [Act.put, List.setIfInBounds_toArray, List.set_cons_zero, List.set_cons_succ]
          refine wpAnyH_done (by kernel_rfl) ?_ _
          clear hHeld
          go_wp2_with fail
          go_roundw
          case rel => exact ⟨ps.length + 1, by omega, by go_num, ps ++ [(a, b)], HEn.out, HG8.out, HB8.out⟩
          case measure => simp [intOf]; omega
        · have h2' : ((l.length : Int) != 2) = true := by simp; omega
          have HRet := Lib.hid (HFail.out (pairN_len hny h2))
          clear heq hny h2
          go_wp2_with fail
          go_ret2
          exact HRet.out
    · obtain hle : ps.length = ys.length := by omega
      have HN := Lib.hid (show nx = if xk = 3 then some ps else none by rw [HPn.out]; have h := HEo.out; rw [hle, List.take_length] at h; rw [h])
      have HNL := Lib.hid ((grows_new (n := 2) (t := 56) (w0 := w) (c := co) pairR_flat HG.out).mono HB.out.size)
      have HSh := Lib.hid (owns_shape HOw.out)
      have HRet := Lib.hid (show ∃ (l : List (ByteArray × ByteArray)) (A' : Option Addr) (c' : Nat), (Ending.returned (.tuple #[.slice Ao ps.length co, .bool (decide (xk = 3))]) = .returned (.tuple #[.slice A' l.length c', .bool nx.isSome]) ∧ l.length ≤ c' ∧ c' ≤ maxLen) ∧ NewLies 2 PairR w.heap.size wr.drew A' l ∧ (∀ l', nx = some l' → l = l') ∧ Below w.heap.size w wr.drew from by
        refine ⟨ps, Ao, co, ⟨?_, HSh.out.1, HSh.out.2⟩, HNL.out.keep pairR_flat ((Keeps.refl (fun _ => False) wr).drew) (fun _ h => h.elim), fun l' h => ?_, HBW.out.drew⟩
        · rw [HN.out]
          by_cases h3 : xk = 3
          · rw [if_pos h3, decide_eq_true h3]; rfl
          · rw [if_neg h3, decide_eq_false h3]; rfl
        · rw [HN.out] at h
          split at h
          · exact Option.some.inj h
          · cases h)
      clear hle
      go_wp2_with fail
      go_region_with fail
      all_goals
        go_wp2_with fail
        go_ret2
        exact HRet.out
end Go.Proofs.YtbchcipjpcdhfaaGreatDoor.Cm
/- The document's reading of commands: set-option. -/
namespace Go.Proofs.YtbchcipjpcdhfaaGreatDoor.Cm
open Go.RowKit Go.Proofs.YtbchcipjpcdhfaaGreatDoor.Dt

/-- a command and whether it is one, as they are handed back within -/
def OptRes (lo : Nat) (w : World) (o : Option Cmd) (e : Ending) (w' : World) : Prop :=
  ∃ (k : Int) (s : ByteArray) (n : Int) (A1 : Option Addr) (n1 c1 : Nat) (A2 : Option Addr) (n2 c2 : Nat) (A3 : Option Addr) (n3 c3 : Nat) (r : ByteArray) (A4 : Option Addr) (n4 c4 : Nat),
    e = .returned (.tuple #[.agg #[.int .i8 k, .string s, .int .i64 n, .slice A1 n1 c1, .slice A2 n2 c2, .slice A3 n3 c3, .string r, .slice A4 n4 c4], .bool o.isSome])
    ∧ (∀ c, o = some c → ∀ W', Stays lo w.heap.size w' W' → CmdR W' [.int .i8 k, .string s, .int .i64 n, .slice A1 n1 c1, .slice A2 n2 c2, .slice A3 n3 c3, .string r, .slice A4 n4 c4] c) ∧ Below w.heap.size w w'
theorem opt_none {lo : Nat} {w w' : World} {o : Option Cmd} (h : o = none) (hb : Below w.heap.size w w') (k : Int) (s : ByteArray) (n : Int) (A1 : Option Addr) (n1 c1 : Nat) (A2 : Option Addr) (n2 c2 : Nat) (A3 : Option Addr) (n3 c3 : Nat) (r : ByteArray) (A4 : Option Addr) (n4 c4 : Nat) :
    OptRes lo w o (.returned (.tuple #[.agg #[.int .i8 k, .string s, .int .i64 n, .slice A1 n1 c1, .slice A2 n2 c2, .slice A3 n3 c3, .string r, .slice A4 n4 c4], .bool false])) w' :=
  ⟨k, s, n, A1, n1, c1, A2, n2, c2, A3, n3, c3, r, A4, n4, c4, by rw [h]; rfl, fun c hc => (by rw [h] at hc; cases hc), hb⟩
theorem opt_some {lo : Nat} {w w' : World} {o : Option Cmd} {c : Cmd} (h : o = some c) (hb : Below w.heap.size w w') (k : Int) (s : ByteArray) (n : Int) (A1 : Option Addr) (n1 c1 : Nat) (A2 : Option Addr) (n2 c2 : Nat) (A3 : Option Addr) (n3 c3 : Nat) (r : ByteArray) (A4 : Option Addr) (n4 c4 : Nat)
    (hc : ∀ W', Stays lo w.heap.size w' W' → CmdR W' [.int .i8 k, .string s, .int .i64 n, .slice A1 n1 c1, .slice A2 n2 c2, .slice A3 n3 c3, .string r, .slice A4 n4 c4] c) :
    OptRes lo w o (.returned (.tuple #[.agg #[.int .i8 k, .string s, .int .i64 n, .slice A1 n1 c1, .slice A2 n2 c2, .slice A3 n3 c3, .string r, .slice A4 n4 c4], .bool true])) w' :=
  ⟨k, s, n, A1, n1, c1, A2, n2, c2, A3, n3, c3, r, A4, n4, c4, by rw [h]; rfl, fun d hd => (by rw [h] at hd; obtain rfl := Option.some.inj hd; exact hc), hb⟩
theorem opt_any {lo : Nat} {w w' : World} {o : Option Cmd} {b : Bool} (h : o.isSome = b) (hb : Below w.heap.size w w') (k : Int) (s : ByteArray) (n : Int) (A1 : Option Addr) (n1 c1 : Nat) (A2 : Option Addr) (n2 c2 : Nat) (A3 : Option Addr) (n3 c3 : Nat) (r : ByteArray) (A4 : Option Addr) (n4 c4 : Nat)
    (hc : ∀ c, o = some c → ∀ W', Stays lo w.heap.size w' W' → CmdR W' [.int .i8 k, .string s, .int .i64 n, .slice A1 n1 c1, .slice A2 n2 c2, .slice A3 n3 c3, .string r, .slice A4 n4 c4] c) :
    OptRes lo w o (.returned (.tuple #[.agg #[.int .i8 k, .string s, .int .i64 n, .slice A1 n1 c1, .slice A2 n2 c2, .slice A3 n3 c3, .string r, .slice A4 n4 c4], .bool b])) w' :=
  ⟨k, s, n, A1, n1, c1, A2, n2, c2, A3, n3, c3, r, A4, n4, c4, by rw [h], hc, hb⟩
theorem ropt_ret {w : World} {b : Nat} {vs : Array Value} {act : Act} {t : TypeId} {R : Ending → World → Prop} {E : Bool} (hb : w.heap[b]? = some (.cells vs t (0, 0))) (hv : vs.size = 8) (h2 : act.tmps[2]? = some (.pointer (some ⟨b, 0, none⟩))) (h3 : act.tmps[3]? = some (.bool E)) (hd : act.defers = []) (hR : R (.returned (.tuple #[.agg vs, .bool E])) w) :
    bodyPost Tryz.prog Tryz.f61 R .ret act w := by
  obtain ⟨v0, v1, v2, v3, v4, v5, v6, v7, e⟩ := list8 (l := vs.toList) (by simpa using hv)
  obtain rfl : vs = #[v0, v1, v2, v3, v4, v5, v6, v7] := Array.toList_inj.1 e
  have y0 := cell_of_cells hb 0
  have y1 := cell_of_cells hb 1
  have y2 := cell_of_cells hb 2
  have y3 := cell_of_cells hb 3
  have y4 := cell_of_cells hb 4
  have y5 := cell_of_cells hb 5
  have y6 := cell_of_cells hb 6
  have y7 := cell_of_cells hb 7
  refine bodyPost_ret (v := .tuple #[.agg #[v0, v1, v2, v3, v4, v5, v6, v7], .bool E]) ?_ hd hR
  simp at y0 y1 y2 y3 y4 y5 y6 y7
  simp [results, Tryz.results61, go_sem, y0, y1, y2, y3, y4, y5, y6, y7, h2, h3]
/-- an element's cells, wherever the list lies -/
theorem part_cells {W0 : World} {A : Option Addr} {xs : List Sexp} (hx : Lies 3 SexpR W0 A xs) {k : Nat} {y : Sexp} (hy : xs[k]? = some y) :
    ∃ b o A' c', A = some ⟨b, o, none⟩ ∧ (∀ W, Below W0.heap.size W0 W → W.cell? ⟨b, o + k * 3, none⟩ = some (.int .i8 y.kind) ∧ W.cell? ⟨b, o + k * 3 + 1, none⟩ = some (.string y.text) ∧ W.cell? ⟨b, o + k * 3 + 2, none⟩ = some (.slice A' y.l.length c')) ∧ SexpR W0 [.int .i8 y.kind, .string y.text, .slice A' y.l.length c'] y := by
  obtain ⟨b, o, A', c', hA, hlt, e0, e1, e2, hr⟩ := sexp_cells hx hy
  exact ⟨b, o, A', c', hA, fun W hW => ⟨(hW.cell (p := ⟨b, o + k * 3, none⟩) hlt).trans e0, (hW.cell (p := ⟨b, o + k * 3 + 1, none⟩) hlt).trans e1, (hW.cell (p := ⟨b, o + k * 3 + 2, none⟩) hlt).trans e2⟩, hr⟩
theorem blk_new2 (w : World) (o p : Obj) : ((w.alloc o).alloc p).heap[w.heap.size + 1]? = some p := by
  have h := blk_new (w.alloc o) p
  have e : (w.alloc o).heap.size = w.heap.size + 1 := by simp
  rw [e] at h; exact h
set_option maxHeartbeats 6400000 in
theorem roption_any {W0 w : World} {A : Option Addr} {c : Nat} {xs : List Sexp} (hx : Lies 3 SexpR W0 A xs) (hb : Below W0.heap.size W0 w) (hc : xs.length ≤ c) :
    Calls Tryz.prog 61 #[.slice A xs.length c] w (OptRes W0.heap.size w (optionO xs.tail)) := by
  have HX := Lib.hid hx
  have HB := Lib.hid hb
  have HT := Lib.hid (fun k => partS_size hx k)
  clear hx hb
  go_enter Tryz.func61, Tryz.ntmps61
  go_upto_region 2 with fail
  have RB := Lib.hid (show ((w.alloc (.cells #[.int .i8 0, .string { data := #[] }, .int .i64 0, .slice none 0 0, .slice none 0 0, .slice none 0 0, .string { data := #[] }, .slice none 0 0] 32)).alloc (.cells #[.int .i8 1, .string { data := #[] }, .int .i64 0, .slice none 0 0, .slice none 0 0, .slice none 0 0, .string { data := #[] }, .slice none 0 0] 32)).heap[w.heap.size]? = _ from (Below.heap_alloc _ _ _ (by simp)).trans (blk_new w _))
  have CB := Lib.hid (blk_new2 w (.cells #[.int .i8 0, .string { data := #[] }, .int .i64 0, .slice none 0 0, .slice none 0 0, .slice none 0 0, .string { data := #[] }, .slice none 0 0] 32) (.cells #[.int .i8 1, .string { data := #[] }, .int .i64 0, .slice none 0 0, .slice none 0 0, .slice none 0 0, .string { data := #[] }, .slice none 0 0] 32))
  have B1 := Lib.hid (((Below.refl w.heap.size w).alloc (Nat.le_refl _) (.cells #[.int .i8 0, .string { data := #[] }, .int .i64 0, .slice none 0 0, .slice none 0 0, .slice none 0 0, .string { data := #[] }, .slice none 0 0] 32)).alloc (by simp) (.cells #[.int .i8 1, .string { data := #[] }, .int .i64 0, .slice none 0 0, .slice none 0 0, .slice none 0 0, .string { data := #[] }, .slice none 0 0] 32))
  have S1 := Lib.hid (show ((w.alloc (.cells #[.int .i8 0, .string { data := #[] }, .int .i64 0, .slice none 0 0, .slice none 0 0, .slice none 0 0, .string { data := #[] }, .slice none 0 0] 32)).alloc (.cells #[.int .i8 1, .string { data := #[] }, .int .i64 0, .slice none 0 0, .slice none 0 0, .slice none 0 0, .string { data := #[] }, .slice none 0 0] 32)).heap.size = w.heap.size + 2 by simp)
  generalize ((w.alloc (.cells #[.int .i8 0, .string { data := #[] }, .int .i64 0, .slice none 0 0, .slice none 0 0, .slice none 0 0, .string { data := #[] }, .slice none 0 0] 32)).alloc (.cells #[.int .i8 1, .string { data := #[] }, .int .i64 0, .slice none 0 0, .slice none 0 0, .slice none 0 0, .string { data := #[] }, .slice none 0 0] 32)) = w1 at *
  by_cases h3 : xs.length = 3
  · obtain ⟨y00, k, x, rfl⟩ := three_of h3
    clear h3
    obtain ⟨b, o, A1, c1, rfl, hc1, hr1⟩ := part_cells HX.out (k := 1) (y := k) rfl
    obtain ⟨b', o', A2, c2, hA, hc2, hr2⟩ := part_cells HX.out (k := 2) (y := x) rfl
    simp only [Option.some.injEq, Addr.mk.injEq, and_true] at hA
    obtain ⟨rfl, rfl⟩ := hA
    simp only [Nat.reduceMul, Nat.add_assoc, Nat.reduceAdd] at hc1 hc2
    have C1 := Lib.hid hc1
    have C2 := Lib.hid hc2
    have R2 := Lib.hid hr2
    have HE := Lib.hid (show optionO [k, x] = if k.kind = 2 then (if k.text = sBudget then (smallN x 1048576).map fun n => { noCmd with kind := 1, name := k.text, n := n } else if k.text = sSeeds then (seedsN x).map fun l => { noCmd with kind := 1, name := k.text, l := l } else none) else none from rfl)
    clear hc1 hc2 hr1 hr2
    by_cases hk : k.kind = 2
    · have hk' : (k.kind != 2) = false := by rw [hk]; rfl
      have HE2 := Lib.hid ((HE.out).trans (if_pos hk))
      obtain ⟨x0, x1, _⟩ := C1.out w1 (HB.out.trans (B1.out.mono HB.out.size))
      obtain ⟨y0, y1, y2, y3, y4, y5, y6, y7, yf⟩ := eight_cells CB.out
      have C2b := Lib.hid (show (w1.setCell ⟨w.heap.size + 1, 1, none⟩ (.string k.text)).heap[w.heap.size + 1]? = some (.cells #[.int .i8 1, .string k.text, .int .i64 0, .slice none 0 0, .slice none 0 0, .slice none 0 0, .string { data := #[] }, .slice none 0 0] 32 (0, 0)) from setCell_at CB.out 1 _)
      have RB2 := Lib.hid ((Below.heap_setCell w1 ⟨w.heap.size + 1, 1, none⟩ (.string k.text) w.heap.size (by show w.heap.size ≠ w.heap.size + 1; omega)).trans RB.out)
      have B2 := Lib.hid (B1.out.setCell (p := ⟨w.heap.size + 1, 1, none⟩) (by show w.heap.size ≤ w.heap.size + 1; omega) (.string k.text))
      have S2 := Lib.hid (show (w1.setCell ⟨w.heap.size + 1, 1, none⟩ (.string k.text)).heap.size = w.heap.size + 2 by rw [← S1.out]; simp [World.setCell])
      clear hk
      go_upto_region 5 with fail
      generalize w1.setCell ⟨w.heap.size + 1, 1, none⟩ (.string k.text) = w2 at *
      clear x0 x1 y0 y1 y2 y3 y4 y5 y6 y7 yf CB RB B1 S1 HE
      have W2 := Lib.hid (HB.out.trans (B2.out.mono HB.out.size))
      obtain ⟨x0, x1, x2⟩ := C2.out w2 W2.out
      by_cases hB : k.text = sBudget
      · have hB' : (k.text.toList == [98, 117, 100, 103, 101, 116]) = true := tl_true hB
        have HE3 := Lib.hid (HE2.out.trans (if_pos hB))
        have HTy := Lib.hid (show ((x.text.size : Nat) : Int) ≤ 140737488351232 from HT.out 2)
        have HSm := Lib.hid (rsmall_any (w := w2) x A2 c2 HTy.out 1048576)
        have HkS := Lib.hid hB
        clear hB
        unfold agS at *
        obtain ⟨y0, y1, y2, y3, y4, y5, y6, y7, yf⟩ := eight_cells C2b.out
        go_wp2_with fail
        refine HSm.out.mono ?_
        rintro e w3 ⟨⟨v, hv, rfl, hve⟩, hb3⟩
        have CB3 := (hb3.block _ (lt_of_block C2b.out)).trans C2b.out
        have RB3 := Lib.hid ((hb3.block _ (lt_of_block RB2.out)).trans RB2.out)
        have B3 := Lib.hid (B2.out.trans (hb3.mono B2.out.size))
        have C4 := Lib.hid (show (w3.setCell ⟨w.heap.size + 1, 2, none⟩ (.int .i64 v)).heap[w.heap.size + 1]? = some (.cells #[.int .i8 1, .string k.text, .int .i64 v, .slice none 0 0, .slice none 0 0, .slice none 0 0, .string { data := #[] }, .slice none 0 0] 32 (0, 0)) from setCell_at CB3 2 _)
        have R4 := Lib.hid ((Below.heap_setCell w3 ⟨w.heap.size + 1, 2, none⟩ (.int .i64 v) w.heap.size (by show w.heap.size ≠ w.heap.size + 1; omega)).trans RB3.out)
        have B4 := Lib.hid (B3.out.setCell (p := ⟨w.heap.size + 1, 2, none⟩) (by show w.heap.size ≤ w.heap.size + 1; omega) (.int .i64 v))
        have HV := Lib.hid hv
        have HVe := Lib.hid hve
        clear y0 y1 y2 y3 y4 y5 y6 y7 yf x0 x1 x2 hb3 hv hve
        obtain ⟨y0, y1, y2, y3, y4, y5, y6, y7, yf⟩ := eight_cells CB3
        go_upto_region 8 with fail
        generalize w3.setCell ⟨w.heap.size + 1, 2, none⟩ (.int .i64 v) = w4 at *
        clear y0 y1 y2 y3 y4 y5 y6 y7 yf CB3
        obtain ⟨z0, z1, z2, z3, z4, z5, z6, z7, zf⟩ := eight_cells R4.out
        obtain ⟨y0, y1, y2, y3, y4, y5, y6, y7, yf⟩ := eight_cells C4.out
        go_wp2_with fail
        refine ropt_ret (w := set8 w4 w.heap.size _ _ _ _ _ _ _ _) (eight_set R4.out _ _ _ _ _ _ _ _) rfl rfl rfl rfl (opt_any (by show (optionO [k, x]).isSome = _; rw [HE3.out]; cases smallN x 1048576 <;> rfl) (set8_keeps (S := fun _ => False) (Keeps.of_below B4.out _) (.inr (Nat.le_refl _)) _ _ _ _ _ _ _ _).none_below _ _ _ _ _ _ _ _ _ _ _ _ _ _ _ _ (fun cc hcc W' _ => ?_))
        replace hcc : optionO [k, x] = some cc := hcc
        rw [HE3.out] at hcc
        cases hn : smallN x 1048576 with
        | none => rw [hn] at hcc; cases hcc
        | some n =>
          rw [hn] at hcc
          obtain rfl := Option.some.inj hcc
          rw [HVe.out n hn]
          exact cmdR_zero W' { noCmd with kind := 1, name := k.text, n := n } rfl rfl rfl rfl (show (Lit.int .i8 1).wf = true by decide) (show I64 n by rw [← HVe.out n hn]; exact HV.out) (show ((k.text.size : Nat) : Int) ≤ 140737488351232 by rw [HkS.out]; decide) (show ((noS.size : Nat) : Int) ≤ 140737488351232 by decide)
      · have hB' : (k.text.toList == [98, 117, 100, 103, 101, 116]) = false := tl_false hB
        have HE3 := Lib.hid (HE2.out.trans (if_neg hB))
        clear hB
        by_cases hS : k.text = sSeeds
        · have hS' : (k.text.toList == [115, 101, 101, 100, 115]) = true := tl_true hS
          have HE4 := Lib.hid (HE3.out.trans (if_pos hS))
          have HkS := Lib.hid hS
          clear hS
          by_cases hk3 : x.kind = 3
          · have hk3' : (x.kind != 3) = false := by rw [hk3]; rfl
            by_cases h64 : x.l.length ≤ 64
            · have h64' : decide ((64 : Int) < (x.l.length : Int)) = false := decide_eq_false (by omega)
              have HE5 := Lib.hid (show optionO [k, x] = (eachO (fun y => smallN y 1048576) x.l).map fun l => { noCmd with kind := 1, name := k.text, l := l } by rw [HE4.out]; unfold seedsN listN; rw [if_pos hk3, Option.bind_some, if_pos h64])
              obtain ⟨_, _, e4, hl4, _, _, _, hlb4, _⟩ := R2.out.open'
              simp only [List.cons.injEq, Value.slice.injEq, and_true, true_and] at e4
              obtain ⟨rfl, rfl⟩ := e4
              have HL := Lib.hid hl4
              have HLen := Lib.hid h64
              obtain ⟨i0, hi0, z0, z1, z2⟩ := info_parts info_int
              have I0 := Lib.hid hi0
              have I1 := Lib.hid z0
              have I2 := Lib.hid z1
              have I3 := Lib.hid z2
              clear hk3 h64 hl4 hlb4 hi0 z0 z1 z2 HE2 HE3 HE4
              obtain ⟨y0, y1, y2, y3, y4, y5, y6, y7, yf⟩ := eight_cells C2b.out
              go_wp2_with fail
              clear y0 y1 y2 y3 y4 y5 y6 y7 yf x0 x1 x2 hS' hk3' h64' hk' hB'
              generalize hxl : x.l = ys at *
              go_loopw [7] (fun i' wr => ∃ q : Nat, q ≤ ys.length ∧ i' = .int .i64 q ∧ ∃ (ps : List Int) (Ao : Option Addr) (co : Nat), eachO (fun y => smallN y 1048576) (ys.take q) = some ps ∧ Grows 1 (IntR .i64) 3 W0 w2.heap.size wr (.slice Ao ps.length co) ps ∧ wr.heap[w.heap.size + 1]? = some (.cells #[.int .i8 1, .string k.text, .int .i64 0, .slice Ao ps.length co, .slice none 0 0, .slice none 0 0, .string { data := #[] }, .slice none 0 0] 32 (0, 0)) ∧ wr.heap[w.heap.size]? = some (.cells #[.int .i8 0, .string { data := #[] }, .int .i64 0, .slice none 0 0, .slice none 0 0, .slice none 0 0, .string { data := #[] }, .slice none 0 0] 32 (0, 0)) ∧ Below w.heap.size w wr ∧ w2.heap.size ≤ wr.heap.size) (fun i' _ => ys.length - (intOf i').toNat)
              case atStart => exact ⟨0, Nat.zero_le _, rfl, [], none, 0, rfl, Grows.nil _, C2b.out, RB2.out, B2.out, Nat.le_refl _⟩
              case round =>
                obtain ⟨q, hq1, rfl, ps, Ao, co, heo, hg, hcb, hrb, hbr, hsz⟩ := hrel
                have HEo := Lib.hid heo
                have HG := Lib.hid hg
                have HCb := Lib.hid hcb
                have HRb := Lib.hid hrb
                have HBr := Lib.hid hbr
                have HSz := Lib.hid hsz
                have HW := Lib.hid (HB.out.trans (hbr.mono HB.out.size))
                have hlk : ps.length = q := by rw [eachO_len heo]; simp; omega
                subst hlk
                obtain ⟨vals, ho, hrr⟩ := hg.row
                have hvl : vals.length = ps.length * 1 := ho.1
                have HOw := Lib.hid ho
                have HRr := Lib.hid hrr
                have HVl := Lib.hid hvl
                clear hg ho hrr hvl hcb hrb hbr heo hsz
                obtain ⟨x0, x1, x2⟩ := C2.out wr HW.out
                by_cases hlt : ps.length < ys.length
                · have hlt2 : (ps.length : Int) < (ys.length : Int) := by omega
                  have hyk := List.getElem?_eq_getElem hlt
                  generalize ys[ps.length] = y at hyk
                  obtain ⟨bb, oo, A6, c6, rfl, hc6, hr6⟩ := part_cells HL.out hyk
                  have HSt := Lib.hid (show (y.text.size : Int) ≤ 140737488351232 by obtain ⟨_, _, _, _, _, _, h1, _⟩ := hr6.open'; exact h1)
                  have HSm := Lib.hid (rsmall_any (w := wr) y A6 c6 HSt.out 1048576)
                  obtain ⟨e0, e1, e2⟩ := hc6 wr HW.out
                  have HYk := Lib.hid hyk
                  clear hc6 hr6 hyk
                  unfold agS at *
                  go_wp2_with fail
                  refine HSm.out.mono ?_
                  rintro e w3 ⟨⟨v, hv, rfl, hve⟩, hb3⟩
                  have HCb3 := Lib.hid ((hb3.block _ (lt_of_block HCb.out)).trans HCb.out)
                  have HRb3 := Lib.hid ((hb3.block _ (lt_of_block HRb.out)).trans HRb.out)
                  have HB3 := Lib.hid (HBr.out.trans (hb3.mono HBr.out.size))
                  have HSz3 := Lib.hid (Nat.le_trans HSz.out hb3.size)
                  have HV := Lib.hid hv
                  have HVe := Lib.hid hve
                  have HO3 := Lib.hid (show World.ownsRow w3 w2.heap.size 3 1 (.slice Ao ps.length co) ps.length vals from owns_keep HOw.out (Keeps.of_below hb3 (fun _ => False)) (fun _ h => h.elim))
                  clear e0 e1 e2 x0 x1 x2 hb3 hv hve
                  cases hn : smallN y 1048576 with
                  | none =>
                    have HO := Lib.hid (show optionO [y00, k, x].tail = none by
                      show optionO [k, x] = none
                      rw [HE5.out, eachO_none (f := fun y => smallN y 1048576) hn (List.mem_of_getElem? HYk.out)]; rfl)
                    clear hn
                    obtain ⟨z0, z1, z2, z3, z4, z5, z6, z7, zf⟩ := eight_cells HRb3.out
                    obtain ⟨y0, y1, y2, y3, y4, y5, y6, y7, yf⟩ := eight_cells HCb3.out
                    go_wp2_with fail
                    exact ropt_ret (w := set8 w3 w.heap.size _ _ _ _ _ _ _ _) (eight_set HRb3.out _ _ _ _ _ _ _ _) rfl rfl rfl rfl (opt_none HO.out (set8_keeps (S := fun _ => False) (Keeps.of_below HB3.out _) (.inr (Nat.le_refl _)) _ _ _ _ _ _ _ _).none_below _ _ _ _ _ _ _ _ _ _ _ _ _ _ _ _)
                  | some n =>
                    have HN := Lib.hid hn
                    obtain rfl : v = n := HVe.out n hn
                    clear hn
                    obtain ⟨y0, y1, y2, y3, y4, y5, y6, y7, yf⟩ := eight_cells HCb3.out
                    have HOA := Lib.hid (show World.ownsRow (w3.alloc (.cells #[.int .i64 v] 3)) w2.heap.size 3 1 (.slice Ao ps.length co) ps.length vals from HO3.out.alloc _)
                    have HCl := Lib.hid (Cells.new w3 [.int .i64 v] 3 (0, 0))
                    have hk48 : ps.length < 64 := Nat.lt_of_lt_of_le hlt HLen.out
                    have HCbA := Lib.hid ((Below.heap_alloc w3 (.cells #[.int .i64 v] 3) _ (lt_of_block HCb3.out)).trans HCb3.out)
                    have HRbA := Lib.hid ((Below.heap_alloc w3 (.cells #[.int .i64 v] 3) _ (lt_of_block HRb3.out)).trans HRb3.out)
                    go_wp2_with (at_builtin; refine wpList_append_at rfl (.tmp 84) (.tmp 86) _ rfl w2.heap.size 3 i0 (.int .i64 0) 1 8 Tryz.underlying28 I0.out I1.out I2.out I3.out rfl (by decide) (.slice Ao ps.length co) ps.length vals rfl HOA.out (some ⟨w3.heap.size, 0, none⟩) 1 1 [.int .i64 v] rfl rfl HCl.out (by simp [Value.oneCell']) (by unfold maxLen; omega) (by omega) (by have := HSz3.out; simp; omega) ?_)
                    intro v' w5 hown hgr hat
                    obtain ⟨A8, c8, rfl⟩ := shape_of_owns hown
                    have HNb := Lib.hid (show ∀ j, j < w2.heap.size → some j ≠ (Value.slice Ao ps.length co).ownBlock from fun j hj e => by have := (HOA.out.lt j e.symm).1; omega)
                    have HC5 := Lib.hid ((hgr.block (w.heap.size + 1) (lt_of_block HCbA.out) (HNb.out _ (by have := S2.out; omega))).trans HCbA.out)
                    have HR5 := Lib.hid ((hgr.block w.heap.size (lt_of_block HRbA.out) (HNb.out _ (by have := S2.out; omega))).trans HRbA.out)
                    have HG5 := Lib.hid (show Grows 1 (IntR .i64) 3 W0 w2.heap.size w5 (.slice A8 (ps ++ [v]).length c8) (ps ++ [v]) from by
                      have h := Grows.push (vs := [.int .i64 v]) HVl.out HRr.out hown ⟨rfl, WalkArith.wf_i64 HV.out⟩ rfl
                      rw [List.length_append]; exact h)
                    have HB5 := Lib.hid ((HB3.out.alloc HB3.out.size (.cells #[.int .i64 v] 3)).grown hgr (by have := HB3.out.size; simp; omega) (fun j hj => by have := (HOA.out.lt j hj).1; have := S2.out; omega))
                    have HS5 := Lib.hid (show w2.heap.size ≤ w5.heap.size by have := hgr.size; have := HSz3.out; simp at *; omega)
                    have HEn := Lib.hid (show eachO (fun y => smallN y 1048576) (ys.take (ps.length + 1)) = some (ps ++ [v]) by
                      rw [List.take_add_one, HYk.out]
                      show eachO _ (ys.take ps.length ++ [y]) = _
                      rw [eachO_snoc y HEo.out, HN.out]
                      rfl)
                    have HC6 := Lib.hid (show (w5.setCell ⟨w.heap.size + 1, 3, none⟩ (.slice A8 (ps ++ [v]).length c8)).heap[w.heap.size + 1]? = some (.cells #[.int .i8 1, .string k.text, .int .i64 0, .slice A8 (ps ++ [v]).length c8, .slice none 0 0, .slice none 0 0, .string { data := #[] }, .slice none 0 0] 32 (0, 0)) from setCell_at HC5.out 3 _)
                    have HR6 := Lib.hid ((Below.heap_setCell w5 ⟨w.heap.size + 1, 3, none⟩ (.slice A8 (ps ++ [v]).length c8) w.heap.size (by show w.heap.size ≠ w.heap.size + 1; omega)).trans HR5.out)
                    have HB6 := Lib.hid (HB5.out.setCell (p := ⟨w.heap.size + 1, 3, none⟩) (by show w.heap.size ≤ w.heap.size + 1; omega) (.slice A8 (ps ++ [v]).length c8))
                    have HG6 := Lib.hid (HG5.out.setCell (p := ⟨w.heap.size + 1, 3, none⟩) (.slice A8 (ps ++ [v]).length c8) (by show w.heap.size + 1 < _; have := S2.out; omega))
                    have HS6 := Lib.hid (show w2.heap.size ≤ (w5.setCell ⟨w.heap.size + 1, 3, none⟩ (.slice A8 (ps ++ [v]).length c8)).heap.size by have := HS5.out; simpa [World.setCell] using this)
                    have hlen : (ps ++ [v]).length = ps.length + 1 := by simp
                    rw [hlen] at HC6 HR6 HB6 HG6 HS6
                    clear hown hgr hat y0 y1 y2 y3 y4 y5 y6 y7 yf
                    obtain ⟨y0, y1, y2, y3, y4, y5, y6, y7, yf⟩ := eight_cells HC5.out
                    go_wp2_with fail
                    go_roundw
                    case rel => exact ⟨ps.length + 1, by omega, by go_num, ps ++ [v], A8, c8, HEn.out, by rw [hlen]; exact HG6.out, by rw [hlen]; exact HC6.out, HR6.out, HB6.out, HS6.out⟩
                    case measure => simp [intOf]; omega
                · obtain hle : ps.length = ys.length := by omega
                  have HF := Lib.hid (show eachO (fun y => smallN y 1048576) ys = some ps by have h := HEo.out; rw [hle, List.take_length] at h; exact h)
                  have HNL := Lib.hid (grows_new (n := 1) (t := 3) (w0 := W0) (c := co) (intR_flat _) HG.out)
                  have HSh := Lib.hid (owns_shape HOw.out)
                  have hlt2 : ¬ ((ps.length : Int) < (ys.length : Int)) := by omega
                  clear hle
                  obtain ⟨z0, z1, z2, z3, z4, z5, z6, z7, zf⟩ := eight_cells HRb.out
                  obtain ⟨y0, y1, y2, y3, y4, y5, y6, y7, yf⟩ := eight_cells HCb.out
                  go_wp2_with fail
                  refine ropt_ret (w := set8 wr w.heap.size _ _ _ _ _ _ _ _) (eight_set HRb.out _ _ _ _ _ _ _ _) rfl rfl rfl rfl (opt_some (show optionO [y00, k, x].tail = some { noCmd with kind := 1, name := k.text, l := ps } by show optionO [k, x] = _; rw [HE5.out, HF.out]; rfl) (set8_keeps (S := fun _ => False) (Keeps.of_below HBr.out _) (.inr (Nat.le_refl _)) _ _ _ _ _ _ _ _).none_below _ _ _ _ _ _ _ _ _ _ _ _ _ _ _ _ (fun W' hW => ?_))
                  have hN8 := HNL.out.keep (intR_flat _) (set8_keeps (S := fun j => j < w2.heap.size) (Keeps.refl _ _) (.inl (show w.heap.size < _ by have := S2.out; omega)) (.int .i8 1) (.string k.text) (.int .i64 0) (.slice Ao ps.length co) (.slice none 0 0) (.slice none 0 0) (.string { data := #[] }) (.slice none 0 0)) (fun _ h => h)
                  have hN9 := hN8.keep (intR_flat _) hW (fun j hj => by have := S2.out; omega)
                  exact ⟨Ao, co, none, 0, none, 0, none, 0, rfl, ⟨hN9.lies, .inl rfl, .inl rfl, .inl rfl, HSh.out.1, Nat.le_refl _, Nat.le_refl _, Nat.le_refl _, HSh.out.2, Nat.zero_le _, Nat.zero_le _, Nat.zero_le _, Nat.zero_le _, (show (Lit.int .i8 1).wf = true by decide), (show I64 0 from ⟨by decide, by decide⟩), (show ((k.text.size : Nat) : Int) ≤ 140737488351232 by rw [HkS.out]; decide), (show ((noS.size : Nat) : Int) ≤ 140737488351232 by decide)⟩⟩
            · have h64' : decide ((64 : Int) < (x.l.length : Int)) = true := decide_eq_true (by omega)
              have HO := Lib.hid (show optionO [y00, k, x].tail = none by
                show optionO [k, x] = none
                rw [HE4.out]; unfold seedsN listN; rw [if_pos hk3, Option.bind_some, if_neg h64]; rfl)
              clear hk3 h64
              obtain ⟨z0, z1, z2, z3, z4, z5, z6, z7, zf⟩ := eight_cells RB2.out
              obtain ⟨y0, y1, y2, y3, y4, y5, y6, y7, yf⟩ := eight_cells C2b.out
              go_wp2_with fail
              exact ropt_ret (w := set8 w2 w.heap.size _ _ _ _ _ _ _ _) (eight_set RB2.out _ _ _ _ _ _ _ _) rfl rfl rfl rfl (opt_none HO.out (set8_keeps (S := fun _ => False) (Keeps.of_below B2.out _) (.inr (Nat.le_refl _)) _ _ _ _ _ _ _ _).none_below _ _ _ _ _ _ _ _ _ _ _ _ _ _ _ _)
          · have hk3' : (x.kind != 3) = true := by rw [bne, beq_eq_false_iff_ne.2 hk3]; rfl
            have HO := Lib.hid (show optionO [y00, k, x].tail = none by
              show optionO [k, x] = none
              rw [HE4.out]; unfold seedsN listN; rw [if_neg hk3]; rfl)
            clear hk3
            obtain ⟨z0, z1, z2, z3, z4, z5, z6, z7, zf⟩ := eight_cells RB2.out
            obtain ⟨y0, y1, y2, y3, y4, y5, y6, y7, yf⟩ := eight_cells C2b.out
            go_wp2_with fail
            exact ropt_ret (w := set8 w2 w.heap.size _ _ _ _ _ _ _ _) (eight_set RB2.out _ _ _ _ _ _ _ _) rfl rfl rfl rfl (opt_none HO.out (set8_keeps (S := fun _ => False) (Keeps.of_below B2.out _) (.inr (Nat.le_refl _)) _ _ _ _ _ _ _ _).none_below _ _ _ _ _ _ _ _ _ _ _ _ _ _ _ _)
        · have hS' : (k.text.toList == [115, 101, 101, 100, 115]) = false := tl_false hS
          have HO := Lib.hid (show optionO [y00, k, x].tail = none from HE3.out.trans (if_neg hS))
          clear hS
          obtain ⟨z0, z1, z2, z3, z4, z5, z6, z7, zf⟩ := eight_cells RB2.out
          obtain ⟨y0, y1, y2, y3, y4, y5, y6, y7, yf⟩ := eight_cells C2b.out
          go_wp2_with fail
          exact ropt_ret (w := set8 w2 w.heap.size _ _ _ _ _ _ _ _) (eight_set RB2.out _ _ _ _ _ _ _ _) rfl rfl rfl rfl (opt_none HO.out (set8_keeps (S := fun _ => False) (Keeps.of_below B2.out _) (.inr (Nat.le_refl _)) _ _ _ _ _ _ _ _).none_below _ _ _ _ _ _ _ _ _ _ _ _ _ _ _ _)
    · have hk' : (k.kind != 2) = true := by rw [bne, beq_eq_false_iff_ne.2 hk]; rfl
      have HO := Lib.hid (show optionO [y00, k, x].tail = none from HE.out.trans (if_neg hk))
      obtain ⟨x0, x1, _⟩ := C1.out w1 (HB.out.trans (B1.out.mono HB.out.size))
      clear hk
      obtain ⟨z0, z1, z2, z3, z4, z5, z6, z7, zf⟩ := eight_cells RB.out
      obtain ⟨y0, y1, y2, y3, y4, y5, y6, y7, yf⟩ := eight_cells CB.out
      go_wp2_with fail
      exact ropt_ret (w := set8 w1 w.heap.size _ _ _ _ _ _ _ _) (eight_set RB.out _ _ _ _ _ _ _ _) rfl rfl rfl rfl (opt_none HO.out (set8_keeps (S := fun _ => False) (Keeps.of_below B1.out _) (.inr (Nat.le_refl _)) _ _ _ _ _ _ _ _).none_below _ _ _ _ _ _ _ _ _ _ _ _ _ _ _ _)
  · have h3' : ((xs.length : Int) != 3) = true := by simp; omega
    have HO := Lib.hid (show optionO xs.tail = none from optionO_not (by rw [List.length_tail]; omega))
    clear h3
    obtain ⟨z0, z1, z2, z3, z4, z5, z6, z7, zf⟩ := eight_cells RB.out
    obtain ⟨y0, y1, y2, y3, y4, y5, y6, y7, yf⟩ := eight_cells CB.out
    go_wp2_with fail
    exact ropt_ret (w := set8 w1 w.heap.size _ _ _ _ _ _ _ _) (eight_set RB.out _ _ _ _ _ _ _ _) rfl rfl rfl rfl (opt_none HO.out (set8_keeps (S := fun _ => False) (Keeps.of_below B1.out _) (.inr (Nat.le_refl _)) _ _ _ _ _ _ _ _).none_below _ _ _ _ _ _ _ _ _ _ _ _ _ _ _ _)
end Go.Proofs.YtbchcipjpcdhfaaGreatDoor.Cm
