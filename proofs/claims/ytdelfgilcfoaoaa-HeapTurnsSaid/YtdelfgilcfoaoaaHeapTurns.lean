/- HeapTurns: the law. -/
import Derived.Test.YtdelfgilcfoaoaaHeapRef3
import Derived.Test.YtdelfgilcfoaoaaOwn2
namespace Go.Proofs.Ytdelfgilcfoaoaa.Hp
open Go.RowKit

/-- a put or a bump -/
def isPB (x : Act3) : Bool := x.dow == 0 || x.dow == 2
theorem upd_comm {α : Type} (f : Nat → α) {i j : Nat} (h : i ≠ j) (u v : α) : upd (upd f i u) j v = upd (upd f j v) i u := by
  funext k
  unfold upd
  by_cases h1 : k = i
  · by_cases h2 : k = j
    · omega
    · simp [h1, h]
  · by_cases h2 : k = j
    · simp [h2, Ne.symm h]
    · simp [h1, h2]
theorem upd_twice {α : Type} (f : Nat → α) (i : Nat) (u v : α) : upd (upd f i u) i v = upd f i v := by
  funext k
  unfold upd
  by_cases h : k = i <;> simp [h]
theorem bump_comm (a : Ab) (i j : Nat) (d e : Int) (hd : 0 ≤ d) (he : 0 ≤ e) : (a.bump i d).bump j e = (a.bump j e).bump i d := by
  unfold Ab.bump
  congr 1
  by_cases h : i = j
  · subst h
    simp only [upd_self]
    rw [upd_twice, upd_twice]
    congr 1
    omega
  · simp only [upd_other _ _ (Ne.symm h), upd_other _ _ h]
    exact upd_comm _ h _ _
theorem put_comm (a : Ab) (i j : Nat) : (a.put i).put j = (a.put j).put i := by
  unfold Ab.put
  congr 1
  by_cases h : i = j
  · subst h; rfl
  · exact upd_comm _ h _ _
theorem step_comm {x y : Act3} (hx : isPB x = true) (hy : isPB y = true) (a : Ab) : stepA (stepA a x) y = stepA (stepA a y) x := by
  have hB : ∀ z : Act3, isPB z = true → ∀ b : Ab, stepA b z = if z.dow = 0 then putA b z.nd else bumpA b z.nd z.by' := by
    intro z hz b
    unfold stepA
    by_cases h0 : z.dow = 0
    · rw [if_pos h0, if_pos h0]
    · have h2 : z.dow = 2 := by simpa [isPB, h0] using hz
      rw [if_neg h0, if_neg h0, if_neg (by omega), if_pos h2]
  rw [hB x hx, hB y hy, hB y hy, hB x hx]
  have np : ∀ (b : Ab) i, (putA b i).n = b.n := fun b i => by unfold putA; split <;> rfl
  have nb : ∀ (b : Ab) i d, (bumpA b i d).n = b.n := fun b i d => by unfold bumpA; split <;> rfl
  by_cases h0 : x.dow = 0 <;> by_cases h1 : y.dow = 0
  · rw [if_pos h0, if_pos h1, if_pos h1, if_pos h0]
    unfold putA
    cases e1 : isB a.n x.nd <;> cases e2 : isB a.n y.nd
    · simp [e1, e2]
    · simp [e1, e2, Ab.put]
    · simp [e1, e2, Ab.put]
    · have := put_comm a x.nd.toNat y.nd.toNat
      simpa [e1, e2, Ab.put] using this
  · rw [if_pos h0, if_neg h1, if_neg h1, if_pos h0]
    unfold putA bumpA bumpG
    cases e1 : isB a.n x.nd <;> cases e2 : (isB a.n y.nd && decide (0 ≤ y.by') && decide (y.by' ≤ 1099511627776))
    · simp [e1, e2]
    · simp [e1, e2, Ab.bump]
    · simp [e1, e2, Ab.put]
    · simp [e1, e2, Ab.put, Ab.bump]
  · rw [if_neg h0, if_pos h1, if_pos h1, if_neg h0]
    unfold putA bumpA bumpG
    cases e1 : isB a.n y.nd <;> cases e2 : (isB a.n x.nd && decide (0 ≤ x.by') && decide (x.by' ≤ 1099511627776))
    · simp [e1, e2]
    · simp [e1, e2, Ab.bump]
    · simp [e1, e2, Ab.put]
    · simp [e1, e2, Ab.put, Ab.bump]
  · rw [if_neg h0, if_neg h1, if_neg h1, if_neg h0]
    unfold bumpA bumpG
    cases e1 : (isB a.n x.nd && decide (0 ≤ x.by') && decide (x.by' ≤ 1099511627776)) <;> cases e2 : (isB a.n y.nd && decide (0 ≤ y.by') && decide (y.by' ≤ 1099511627776))
    · simp [e1, e2]
    · simp [e1, e2, Ab.bump]
    · simp [e1, e2, Ab.bump]
    · simp only [Bool.and_eq_true, decide_eq_true_eq] at e1 e2
      have := bump_comm a x.nd.toNat y.nd.toNat x.by' y.by' e1.1.2 e2.1.2
      simpa [e1.1.1, e1.1.2, e1.2, e2.1.1, e2.1.2, e2.2, Ab.bump] using this
theorem play_turned {l : List Act3} (h : ∀ x ∈ l, isPB x = true) (a : Ab) : play a l.reverse = play a l := by
  unfold play
  exact (List.reverse_perm l).foldl_eq' (fun x hx y hy z => step_comm (h x (by simpa using hx)) (h y (by simpa using hy)) z) a

theorem info_act : (Try.prog.info? 40).map (fun i => (i.zero, i.size, i.bytes)) = some (some (.agg #[.int .i64 0, .int .i64 0, .int .i64 0]), 3, 24) := by kernel_rfl
theorem owns_cells {w : World} {B n c s : Nat} {t : TypeId} {A : Option Addr} {xs : List Value} (h : w.ownsRow B t s (.slice A n c) n xs) : Cells w A xs := by
  rcases h.2 with ⟨h1, h2⟩ | ⟨g, cap', cur, hv, hb, hg, h3, h4, h5, h6⟩
  · left
    have := h.1
    rw [h2, Nat.zero_mul] at this
    exact List.length_eq_zero_iff.1 this
  · simp only [Value.slice.injEq] at hv
    refine .inr ⟨g, 0, hv.1, lt_of_block hg, fun j u hu => ?_⟩
    rw [Nat.zero_add, cell_of_cells hg]
    rw [← h6, List.getElem?_take] at hu
    split at hu
    · simpa using hu
    · cases hu
theorem owns_shape {w : World} {B n s : Nat} {t : TypeId} {v : Value} {xs : List Value} (h : w.ownsRow B t s v n xs) : ∃ A c, v = .slice A n c := by
  rcases h.2 with ⟨rfl, rfl⟩ | ⟨g, cap, cur, rfl, _⟩
  · exact ⟨none, 0, rfl⟩
  · exact ⟨_, cap, rfl⟩
theorem owns_far {w w' : World} {B n s : Nat} {t : TypeId} {v : Value} {xs : List Value} {row : Option Nat} (h : w.ownsRow B t s v n xs) (hg : w.grownBy w' row) (hr : ∀ k, v.ownBlock = some k → row ≠ some k) : w'.ownsRow B t s v n xs := by
  refine ⟨h.1, ?_⟩
  rcases h.2 with h1 | ⟨g, cap, cur, h1, h2, h3, h4⟩
  · exact .inl h1
  · exact .inr ⟨g, cap, cur, h1, h2, (hg.block g (lt_of_block h3) (fun e => hr g (by rw [h1]; rfl) e.symm)).trans h3, h4⟩
theorem owns_block {w : World} {B n s : Nat} {t : TypeId} {v : Value} {xs : List Value} (h : w.ownsRow B t s v n xs) : ∀ k, v.ownBlock = some k → B ≤ k ∧ k < w.heap.size := by
  intro k hk
  rcases h.2 with ⟨h1, _⟩ | ⟨g, cap, cur, h1, h2, h3, h4⟩
  · rw [h1] at hk; simp [Value.ownBlock] at hk
  · rw [h1] at hk; simp [Value.ownBlock] at hk; subst hk; exact ⟨h2, lt_of_block h3⟩
theorem owns_lit (w : World) (t : TypeId) (s : Nat) (xs : List Value) (hs : xs.length = s) : (w.alloc (.cells xs.toArray t)).ownsRow w.heap.size t s (.slice (some ⟨w.heap.size, 0, none⟩) 1 1) 1 xs :=
  ⟨by rw [hs, Nat.one_mul], .inr ⟨w.heap.size, 1, xs.toArray, rfl, Nat.le_refl _, by show (w.heap.push _)[w.heap.size]? = _; exact Array.getElem?_push_size, Nat.le_refl _, by unfold maxLen; omega, by simp [hs], by rw [Nat.one_mul]; exact List.take_of_length_le (Nat.le_of_eq hs)⟩⟩

theorem owns_low {w : World} {B B' n s : Nat} {t : TypeId} {v : Value} {xs : List Value} (h : w.ownsRow B t s v n xs) (hB : B' ≤ B) : w.ownsRow B' t s v n xs := by
  refine ⟨h.1, ?_⟩
  rcases h.2 with h1 | ⟨g, cap, cur, h1, h2, h3⟩
  · exact .inl h1
  · exact .inr ⟨g, cap, cur, h1, by omega, h3⟩
def pbs (l : List Act3) (k : Nat) : List Act3 := (l.take k).filter isPB
theorem pbs_succ {l : List Act3} {k : Nat} {x : Act3} (h : l[k]? = some x) : pbs l (k + 1) = if isPB x = true then pbs l k ++ [x] else pbs l k := by
  unfold pbs
  rw [List.take_add_one, h, Option.toList_some, List.filter_append]
  split
  · rename_i hx; simp [hx]
  · rename_i hx; simp [hx]
theorem pbs_length (l : List Act3) (k : Nat) : (pbs l k).length ≤ l.length := by
  unfold pbs
  exact Nat.le_trans (List.length_filter_le _ _) (List.length_take_le' _ _)
/-- what stands at the head of a round -/
structure TurnsAt (w : World) (qs : List Act3) (va vb : Value) (wr : World) : Prop where
  a : wr.ownsRow w.heap.size 40 3 va qs.length (flat qs)
  b : wr.ownsRow w.heap.size 40 3 vb qs.length (flat qs.reverse)
  ne : ∀ k, va.ownBlock = some k → vb.ownBlock ≠ some k
  keep : Below w.heap.size w wr
theorem flat_rev (qs : List Act3) (x : Act3) : flat [x] ++ flat qs.reverse = flat (qs ++ [x]).reverse := by rw [← flat_append]; simp

set_option maxRecDepth 100000 in
set_option maxHeartbeats 3200000 in
theorem turns_far {w : World} (n : Int) (A : Option Addr) (cap : Nat) (l : List Act3) (hl : (l.length : Int) ≤ 9223372036854775807) (h : 300 < l.length ∨ n < 0 ∨ 300 < n) :
    Calls Try.prog 7 #[.int .i64 n, .slice A l.length cap] w fun e w' => e = .returned (.bool true) ∧ Below w.heap.size w w' := by
  generalize hL : l.length = L at *
  have HW := Lib.hid (wakes_any w)
  by_cases h1 : 300 < L
  · have h1' : (300 : Int) < (L : Int) := by omega
    go_enter Try.func7, Try.ntmps7
    go_wp2_with fail
    refine HW.out.mono ?_
    rintro e w1 ⟨rfl, hb⟩
    go_wp2_with fail
    go_ret
    exact ⟨rfl, hb⟩
  · have h1' : ¬ (300 : Int) < (L : Int) := by omega
    have d1 := decide_eq_false h1'
    by_cases h2 : n < 0
    · go_enter Try.func7, Try.ntmps7
      go_wp2_with fail
      refine HW.out.mono ?_
      rintro e w1 ⟨rfl, hb⟩
      go_wp2_with fail
      go_ret
      exact ⟨rfl, hb⟩
    · have h3 : 300 < n := by omega
      have d2 := decide_eq_false h2
      go_enter Try.func7, Try.ntmps7
      go_wp2_with fail
      refine HW.out.mono ?_
      rintro e w1 ⟨rfl, hb⟩
      go_wp2_with fail
      go_ret
      exact ⟨rfl, hb⟩

set_option maxRecDepth 100000 in
set_option maxHeartbeats 6400000 in
theorem turns_near {w : World} (n : Nat) (hn : n ≤ 300) (A : Option Addr) (cap : Nat) (l : List Act3) (hc : Cells w A (flat l)) (hl : l.length ≤ 300) :
    Calls Try.prog 7 #[.int .i64 n, .slice A l.length cap] w fun e w' => e = .returned (.bool true) ∧ Below w.heap.size w w' := by
  have h1' : ¬ (300 : Int) < (l.length : Int) := by omega
  have d1 := decide_eq_false h1'
  have h2 : ¬ (n : Int) < 0 := by omega
  have h3 : ¬ (300 : Int) < (n : Int) := by omega
  have d2 := decide_eq_false h2
  have d3 := decide_eq_false h3
  obtain ⟨i0, hi0, hz0, hz1, hz2⟩ := info_parts info_act
  have I1 := Lib.hid hz1
  have I2 := Lib.hid hz2
  have I0 := Lib.hid hz0
  clear hz0 hz1 hz2
  go_enter Try.func7, Try.ntmps7
  go_wp2_with fail
  go_loopw [5, 6, 7] (fun va vb v wr => ∃ k : Nat, k ≤ l.length ∧ v = .int .i64 k ∧ TurnsAt w (pbs l k) va vb wr) (fun _ _ v _ => l.length - (intOf v).toNat)
  case atStart => exact ⟨0, Nat.zero_le _, rfl, ⟨⟨rfl, .inl ⟨rfl, rfl⟩⟩, ⟨rfl, .inl ⟨rfl, rfl⟩⟩, fun k hk => by simp [Value.ownBlock] at hk, Below.refl _ _⟩⟩
  case round =>
    obtain ⟨k, hk, rfl, hT⟩ := hrel
    have HT := Lib.hid hT
    obtain ⟨Aa, ca, rfl⟩ := owns_shape hT.a
    obtain ⟨Ab', cb, rfl⟩ := owns_shape hT.b
    clear hT
    by_cases hlt : k < l.length
    · have hlt2 : (k : Int) < (l.length : Int) := by omega
      have hx := List.getElem?_eq_getElem hlt
      generalize l[k] = x at hx
      have HS := Lib.hid (pbs_succ hx)
      have hpl := pbs_length l k
      generalize pbs l k = qs at *
      rcases hc with h0 | ⟨b, o, rfl, hbl, hcell⟩
      · have := flat_length l; rw [h0] at this; simp at this; omega
      · obtain ⟨g0, g1, g2⟩ := flat_at l _ _ hx
        have HC := Lib.hid (fun (W : World) (hb : Below w.heap.size w W) => show W.cell? ⟨b, o + k * 3, none⟩ = some (.int .i64 x.dow) ∧ W.cell? ⟨b, o + k * 3 + 1, none⟩ = some (.int .i64 x.nd) ∧ W.cell? ⟨b, o + k * 3 + 2, none⟩ = some (.int .i64 x.by') from
          ⟨by rw [(bcell hb).1 _ _ hbl]; exact hcell _ _ g0, by rw [(bcell hb).1 _ _ hbl, Nat.add_assoc]; exact hcell _ _ g1, by rw [(bcell hb).1 _ _ hbl, Nat.add_assoc]; exact hcell _ _ g2⟩)
        clear hcell g0 g1 g2
        by_cases hp : isPB x = true
        · replace HS := Lib.hid (HS.out.trans (if_pos hp))
          obtain ⟨xd, xn, xb⟩ := x
          simp only at HC
          have hd : xd = 0 ∨ xd = 2 := by simpa [isPB] using hp
          clear hp hx
          rcases hd with rfl | rfl
          · have _ := HC
            obtain ⟨c0, c1, c2⟩ := HC.out wr HT.out.keep
            have HX := Lib.hid (Cells.new wr (flat [Act3.mk 0 xn xb]) 40 (0, 0))
            go_wp2_with (at_builtin; refine wpList_append_at rfl (.tmp 42) (.tmp 47) _ rfl w.heap.size 40 i0 _ 3 24 Try.underlying22 hi0 I0.out I1.out I2.out rfl (by decide) (.slice Aa qs.length ca) qs.length (flat qs) rfl ?c1 (some ⟨wr.heap.size, 0, none⟩) 1 1 (flat [Act3.mk 0 xn xb]) rfl ?c2 ?c3 ?c4 ?c5 ?c6 ?c7 ?c8)
            case c1 => exact HT.out.a.alloc _
            case c2 => rfl
            case c3 => exact HX.out
            case c4 => exact flat_cell _
            case c5 => unfold maxLen; omega
            case c6 => omega
            case c7 => have := HT.out.keep.size; simp; omega
            intro va' w2 hown1 hgr1 hat1
            obtain ⟨Aa', ca', rfl⟩ := owns_shape hown1
            have HA2 := Lib.hid (show w2.ownsRow w.heap.size 40 3 (.slice Aa' (qs.length + 1) ca') (qs ++ [Act3.mk 0 xn xb]).length (flat (qs ++ [Act3.mk 0 xn xb])) from by rw [flat_append, List.length_append]; exact hown1)
            have HB2 := Lib.hid (owns_far (HT.out.b.alloc (.cells (flat [Act3.mk 0 xn xb]).toArray 40)) hgr1 (fun k hk he => HT.out.ne k he hk))
            have HK2 := Lib.hid ((HT.out.keep.alloc HT.out.keep.size (.cells (flat [Act3.mk 0 xn xb]).toArray 40)).grown hgr1 (by have := HT.out.keep.size; simp; omega) (fun k hk => (owns_block HT.out.a k hk).1))
            have HN2 := Lib.hid (show ∀ k, (Value.slice Aa' (qs.length + 1) ca').ownBlock = some k → (Value.slice Ab' qs.length cb).ownBlock ≠ some k from fun k hk he => by
              rcases hat1 with h1 | h1
              · exact HT.out.ne k (h1.symm.trans hk) he
              · have h4 := (owns_block HT.out.b k he).2
                have h5 : some k = some (wr.heap.size + 1) := hk.symm.trans (by rw [h1])
                simp at h5; omega)
            clear hown1 hgr1 hat1 c0 c1 c2 HX
            obtain ⟨c0, c1, c2⟩ := HC.out w2 HK2.out
            have HX := Lib.hid (owns_lit w2 40 3 (flat [Act3.mk 0 xn xb]) rfl)
            have HCb := Lib.hid (owns_cells (HB2.out.alloc (.cells (flat [Act3.mk 0 xn xb]).toArray 40)))
            go_wp2_with (at_builtin; refine wpList_append_at rfl (.tmp 53) (.tmp 54) _ rfl w2.heap.size 40 i0 _ 3 24 Try.underlying22 hi0 I0.out I1.out I2.out rfl (by decide) (.slice (some ⟨w2.heap.size, 0, none⟩) 1 1) 1 (flat [Act3.mk 0 xn xb]) rfl ?e1 Ab' qs.length cb (flat qs.reverse) rfl ?e2 ?e3 ?e4 ?e5 ?e6 ?e7 ?e8)
            case e1 => exact HX.out
            case e2 => rw [flat_length, List.length_reverse]
            case e3 => exact HCb.out
            case e4 => exact flat_cell _
            case e5 => unfold maxLen; omega
            case e6 => omega
            case e7 => simp
            intro vb' w3 hown2 hgr2 hat2
            obtain ⟨Ab2, cb2, rfl⟩ := owns_shape hown2
            have HN := Lib.hid (show TurnsAt w (qs ++ [Act3.mk 0 xn xb]) (.slice Aa' (qs.length + 1) ca') (.slice Ab2 (1 + qs.length) cb2) w3 from by
              have hz := HK2.out.size
              refine ⟨?_, ?_, fun k hk he => ?_, (HK2.out.alloc hz _).grown hgr2 (by simp; omega) (fun k hk => by simp [Value.ownBlock] at hk; omega)⟩
              · refine owns_far (HA2.out.alloc _) hgr2 (fun k hk he => ?_)
                have := (owns_block HA2.out k hk).2
                simp [Value.ownBlock] at he; omega
              · have e2 : 1 + qs.length = (qs ++ [Act3.mk 0 xn xb]).length := by simp; omega
                rw [← flat_rev, ← e2]
                exact owns_low hown2 hz
              · have h4 := (owns_block HA2.out k hk).2
                rcases hat2 with h1 | h1
                · rw [h1] at he; simp [Value.ownBlock] at he; omega
                · rw [h1] at he; simp at he; omega)
            clear hown2 hgr2 hat2 c0 c1 c2 HX
            go_wp2_with fail
            go_roundw
            case rel => exact ⟨k + 1, by omega, by go_num, by rw [HS.out]; exact HN.out⟩
            case measure => simp [intOf]; omega
          · have _ := HC
            obtain ⟨c0, c1, c2⟩ := HC.out wr HT.out.keep
            have HX := Lib.hid (Cells.new wr (flat [Act3.mk 2 xn xb]) 40 (0, 0))
            go_wp2_with (at_builtin; refine wpList_append_at rfl (.tmp 42) (.tmp 47) _ rfl w.heap.size 40 i0 _ 3 24 Try.underlying22 hi0 I0.out I1.out I2.out rfl (by decide) (.slice Aa qs.length ca) qs.length (flat qs) rfl ?p1 (some ⟨wr.heap.size, 0, none⟩) 1 1 (flat [Act3.mk 2 xn xb]) rfl ?p2 ?p3 ?p4 ?p5 ?p6 ?p7 ?p8)
            case p1 => exact HT.out.a.alloc _
            case p2 => rfl
            case p3 => exact HX.out
            case p4 => exact flat_cell _
            case p5 => unfold maxLen; omega
            case p6 => omega
            case p7 => have := HT.out.keep.size; simp; omega
            intro va' w2 hown1 hgr1 hat1
            obtain ⟨Aa', ca', rfl⟩ := owns_shape hown1
            have HA2 := Lib.hid (show w2.ownsRow w.heap.size 40 3 (.slice Aa' (qs.length + 1) ca') (qs ++ [Act3.mk 2 xn xb]).length (flat (qs ++ [Act3.mk 2 xn xb])) from by rw [flat_append, List.length_append]; exact hown1)
            have HB2 := Lib.hid (owns_far (HT.out.b.alloc (.cells (flat [Act3.mk 2 xn xb]).toArray 40)) hgr1 (fun k hk he => HT.out.ne k he hk))
            have HK2 := Lib.hid ((HT.out.keep.alloc HT.out.keep.size (.cells (flat [Act3.mk 2 xn xb]).toArray 40)).grown hgr1 (by have := HT.out.keep.size; simp; omega) (fun k hk => (owns_block HT.out.a k hk).1))
            have HN2 := Lib.hid (show ∀ k, (Value.slice Aa' (qs.length + 1) ca').ownBlock = some k → (Value.slice Ab' qs.length cb).ownBlock ≠ some k from fun k hk he => by
              rcases hat1 with h1 | h1
              · exact HT.out.ne k (h1.symm.trans hk) he
              · have h4 := (owns_block HT.out.b k he).2
                have h5 : some k = some (wr.heap.size + 1) := hk.symm.trans (by rw [h1])
                simp at h5; omega)
            clear hown1 hgr1 hat1 c0 c1 c2 HX
            obtain ⟨c0, c1, c2⟩ := HC.out w2 HK2.out
            have HX := Lib.hid (owns_lit w2 40 3 (flat [Act3.mk 2 xn xb]) rfl)
            have HCb := Lib.hid (owns_cells (HB2.out.alloc (.cells (flat [Act3.mk 2 xn xb]).toArray 40)))
            go_wp2_with (at_builtin; refine wpList_append_at rfl (.tmp 53) (.tmp 54) _ rfl w2.heap.size 40 i0 _ 3 24 Try.underlying22 hi0 I0.out I1.out I2.out rfl (by decide) (.slice (some ⟨w2.heap.size, 0, none⟩) 1 1) 1 (flat [Act3.mk 2 xn xb]) rfl ?q1 Ab' qs.length cb (flat qs.reverse) rfl ?q2 ?q3 ?q4 ?q5 ?q6 ?q7 ?q8)
            case q1 => exact HX.out
            case q2 => rw [flat_length, List.length_reverse]
            case q3 => exact HCb.out
            case q4 => exact flat_cell _
            case q5 => unfold maxLen; omega
            case q6 => omega
            case q7 => simp
            intro vb' w3 hown2 hgr2 hat2
            obtain ⟨Ab2, cb2, rfl⟩ := owns_shape hown2
            have HN := Lib.hid (show TurnsAt w (qs ++ [Act3.mk 2 xn xb]) (.slice Aa' (qs.length + 1) ca') (.slice Ab2 (1 + qs.length) cb2) w3 from by
              have hz := HK2.out.size
              refine ⟨?_, ?_, fun k hk he => ?_, (HK2.out.alloc hz _).grown hgr2 (by simp; omega) (fun k hk => by simp [Value.ownBlock] at hk; omega)⟩
              · refine owns_far (HA2.out.alloc _) hgr2 (fun k hk he => ?_)
                have := (owns_block HA2.out k hk).2
                simp [Value.ownBlock] at he; omega
              · have e2 : 1 + qs.length = (qs ++ [Act3.mk 2 xn xb]).length := by simp; omega
                rw [← flat_rev, ← e2]
                exact owns_low hown2 hz
              · have h4 := (owns_block HA2.out k hk).2
                rcases hat2 with h1 | h1
                · rw [h1] at he; simp [Value.ownBlock] at he; omega
                · rw [h1] at he; simp at he; omega)
            clear hown2 hgr2 hat2 c0 c1 c2 HX
            go_wp2_with fail
            go_roundw
            case rel => exact ⟨k + 1, by omega, by go_num, by rw [HS.out]; exact HN.out⟩
            case measure => simp [intOf]; omega
        · replace HS := Lib.hid (HS.out.trans (if_neg hp))
          obtain ⟨xd, xn, xb⟩ := x
          have n0 : (xd == 0) = false := by simp [isPB] at hp; exact beq_eq_false_iff_ne.2 hp.1
          have n2 : (xd == 2) = false := by simp [isPB] at hp; exact beq_eq_false_iff_ne.2 hp.2
          obtain ⟨c0, c1, c2⟩ := HC.out wr HT.out.keep
          clear hp hx
          go_wp2_with fail
          go_roundw
          case rel => exact ⟨k + 1, by omega, by go_num, by rw [HS.out]; exact HT.out⟩
          case measure => simp [intOf]; omega
    · obtain rfl : k = l.length := by omega
      have hpl := pbs_length l l.length
      have hall : ∀ x ∈ pbs l l.length, isPB x = true := fun x hx => by unfold pbs at hx; exact (List.mem_filter.1 hx).2
      generalize pbs l l.length = qs at *
      have HBa := Lib.hid (behind_any wr n (by omega) Aa ca qs (owns_cells HT.out.a) (by omega))
      have HP := Lib.hid (play_turned hall (newA n))
      clear hall
      go_wp2_with fail
      refine HBa.out.mono ?_
      rintro e w1 ⟨H1, rfl, ha, hb⟩
      have A1 := Lib.hid ha.1.within
      have B1 := Lib.hid (HT.out.keep.trans (hb.mono HT.out.keep.size))
      have HBb := Lib.hid (behind_any w1 n (by omega) Ab' cb qs.reverse ((owns_cells HT.out.b).on hb) (by rw [List.length_reverse]; omega))
      rw [List.length_reverse] at HBb
      clear ha hb
      go_wp2_with fail
      refine HBb.out.mono ?_
      rintro e w2 ⟨H2, rfl, ha, hb⟩
      rw [HP.out] at ha
      have A2 := Lib.hid (A1.out.below hb)
      have G2 := Lib.hid ha.1
      have B2 := Lib.hid (B1.out.trans (hb.mono B1.out.size))
      clear ha hb
      go_wp2_with fail
      refine (sorted_any A2.out).mono ?_
      rintro e w3 ⟨v3, r3, rfl, hs3, ho3, hb⟩
      obtain ⟨A3, p3, rfl⟩ := owns_shape ho3
      have HS3 := Lib.hid hs3
      have HC3 := Lib.hid (owns_cells ho3)
      have G3 := Lib.hid (G2.out.below hb)
      have A3' := Lib.hid (A2.out.below hb)
      have B3 := Lib.hid (B2.out.trans (hb.mono B2.out.size))
      clear hs3 ho3 hb
      go_wp2_with fail
      refine (sorted_any G3.out).mono ?_
      rintro e w4 ⟨v4, r4, rfl, hs4, ho4, hb⟩
      obtain rfl : r4 = r3 := hs4.unique (Ab.Eq.refl _) HS3.out
      obtain ⟨A4, p4, rfl⟩ := owns_shape ho4
      have hr : r4.length ≤ 65536 := by rw [hs4.len]; exact Nat.le_trans (cnt_le _ _) G3.out.small
      have HSm := Lib.hid (same_any (c := p3) (d := p4) r4 hr (HC3.out.on hb) (owns_cells ho4))
      have G4 := Lib.hid (G3.out.below hb)
      have A4' := Lib.hid (A3'.out.below hb)
      have B4 := Lib.hid (B3.out.trans (hb.mono B3.out.size))
      clear hs4 ho4 hb
      go_wp2_with fail
      refine HSm.out.mono ?_
      rintro e w5 ⟨rfl, q, rfl⟩
      have P1 := Lib.hid (ptr_len (A4'.out.heap (w' := w4.drewN q) rfl))
      have P2 := Lib.hid (ptr_len (G4.out.heap (w' := w4.drewN q) rfl))
      have B5 := Lib.hid (show Below w.heap.size w (w4.drewN q) from ⟨B4.out.os, B4.out.tape, B4.out.output, B4.out.size, B4.out.block⟩)
      generalize w4.drewN q = w5 at *
      have HW := Lib.hid (wakes_any w5)
      go_wp2_with fail
      refine P1.out.mono ?_
      rintro e w' ⟨rfl, rfl⟩
      go_wp2_with fail
      refine P2.out.mono ?_
      rintro e w' ⟨rfl, rfl⟩
      go_wp2_with fail
      refine HW.out.mono ?_
      rintro e w6 ⟨rfl, hb⟩
      have B6 := Lib.hid (B5.out.trans (hb.mono B5.out.size))
      clear hb
      go_wp2_with fail
      go_ret
      exact ⟨rfl, B6.out⟩
theorem heapTurns_all {w : World} (n : Int) (l : List Act3) (A : Option Addr) (cap : Nat) (hc : Cells w A (flat l)) (hl : l.length ≤ cap) (hm : cap ≤ 9223372036854775807) :
    Calls Try.prog 7 #[.int .i64 n, .slice A l.length cap] w fun e w' => e = .returned (.bool true) ∧ Below w.heap.size w w' := by
  by_cases h : 300 < l.length ∨ n < 0 ∨ 300 < n
  · exact turns_far n A cap l (by omega) h
  · obtain ⟨k, rfl⟩ := Int.eq_ofNat_of_zero_le (show 0 ≤ n by omega)
    exact turns_near k (by omega) A cap l hc (by omega)
end Go.Proofs.Ytdelfgilcfoaoaa.Hp
