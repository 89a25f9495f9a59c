import Derived.Test.YtpmdcckapddchaaGreatShort
import Derived.Test.YtpmdcckapddchaaGreatMm
import Derived.Test.YtpmdcckapddchaaGreatMk
/- merged by wip/merge.py from: ElOp -/
/- A maker's node of a kind. -/
namespace Go.Proofs.YtpmdcckapddchaaGreat.El
open Go.RowKit Go.Maps Go.Proofs.YtpmdcckapddchaaGreat.Dt Go.Proofs.YtpmdcckapddchaaGreat.Sg

def ValR (_ : World) (vs : List Value) (v : V) : Prop := vs = [.int .i64 v.1, .int .i64 v.2] ∧ VI v
theorem ValR.lasts : Lasts ValR := fun _ _ _ _ _ h => h
theorem val_get {w : World} {A : Option Addr} {l : List V} (h : Lies 2 ValR w A l) {k : Nat} {v : V} (hv : l[k]? = some v) : ∃ b o, A = some ⟨b, o, none⟩ ∧ b < w.heap.size ∧ w.cell? ⟨b, o + k * 2, none⟩ = some (.int .i64 v.1) ∧ w.cell? ⟨b, o + k * 2 + 1, none⟩ = some (.int .i64 v.2) ∧ VI v := by
 obtain ⟨b, o, vs, hA, hb, _, hc, rfl, hi⟩ := h.at' hv
 exact ⟨b, o, hA, hb, hc 0 _ rfl, hc 1 _ rfl, hi⟩
def argK (l : List V) (k i : Nat) : Int := if i < k then nthN l i else 0
theorem opS_i64 {op : Int} {l : List Int} {s : Int} (h : opS op l = some s) (hl : ∀ x ∈ l, I64 x) : I64 s := by
 unfold opS at h
 repeat' split at h
 all_goals first | (cases h; unfold I64; omega) | (cases h; exact hl _ (by simp)) | cases h
theorem nthN_i64 {l : List V} (h : ∀ v ∈ l, VI v) (i : Nat) : I64 (nthN l i) := by
 unfold nthN
 rw [List.getD_eq_getElem?_getD]
 cases hv : l[i]? with
 | none => exact v0_VI.2
 | some v => exact (h v (List.mem_of_getElem? hv)).2
theorem lies_vi {w : World} {A : Option Addr} {l : List V} (h : Lies 2 ValR w A l) : ∀ v ∈ l, VI v := by
 intro v hv
 obtain ⟨k, hk⟩ := List.getElem?_of_mem hv
 obtain ⟨_, _, _, _, _, _, h⟩ := val_get h hk
 exact h
theorem owns_keepE {S : Nat → Prop} {w w' : World} {B m n : Nat} {t : TypeId} {v : Value} {xs : List Value} (h : w.ownsRow B t m v n xs) (hk : Keeps S w w') (hS : ∀ k, S k → k < B) : w'.ownsRow B t m v n xs := by
 refine ⟨h.1, ?_⟩
 rcases h.2 with h1 | ⟨g, cap, cur, h1, hg, hat, h2⟩
 ·exact .inl h1
 ·exact .inr ⟨g, cap, cur, h1, hg, (hk.block g (lt_of_block hat) (fun hs => by have := hS g hs; omega)).trans hat, h2⟩
theorem argK_full (l : List V) (i : Nat) : argK l l.length i = nthN l i := by
 unfold argK
 split
 ·rfl
 ·rename_i h
  unfold nthN
  rw [List.getD_eq_getElem?_getD, List.getElem?_eq_none (by omega)]
  rfl
theorem row_cap {w : World} {B n s c : Nat} {t : TypeId} {A : Option Addr} {xs : List Value} (h : w.ownsRow B t s (.slice A n c) n xs) : n ≤ c ∧ c ≤ maxLen := by
 rcases h.2 with ⟨h1, h2⟩ | ⟨g, cap, cur, h1, _, _, h3, h4, _⟩
 ·simp only [Value.slice.injEq] at h1
  obtain ⟨_, rfl, rfl⟩ := h1
  exact ⟨Nat.le_refl _, by unfold maxLen; omega⟩
 ·simp only [Value.slice.injEq] at h1
  obtain ⟨_, _, rfl⟩ := h1
  exact ⟨h3, h4⟩
theorem args_set {op ln n : Int} {l : List V} {k : Nat} {v : V} (hk : k < 3) (hv : l[k]? = some v) :
  #[Value.int .i8 op, .int .i8 ln, .int .i64 (argK l k 0), .int .i64 (argK l k 1), .int .i64 (argK l k 2), .int .i64 0, .int .i64 0, .int .i64 n].setIfInBounds (2 + k) (.int .i64 v.2) =
  #[Value.int .i8 op, .int .i8 ln, .int .i64 (argK l (k + 1) 0), .int .i64 (argK l (k + 1) 1), .int .i64 (argK l (k + 1) 2), .int .i64 0, .int .i64 0, .int .i64 n] := by
 have hn : nthN l k = v.2 := by unfold nthN; rw [List.getD_eq_getElem?_getD, hv]; rfl
 have hc : k = 0 ∨ k = 1 ∨ k = 2 := by omega
 rcases hc with rfl | rfl | rfl <;> simp [argK, hn]
set_option maxRecDepth 100000 in
set_option maxHeartbeats 6400000 in
theorem op_any {F : Fix} (hF : FixOk F) {w : World} {known : Int} {st : St} {At : Option Addr} {ct : Nat} (hm : Mk F w known st At ct) (op n : Int) (hop : I8 op) (hn : I64 n) {L : Option Addr} {l : List V} (cl : Nat) (hl : Lies 2 ValR w L l) (h3 : l.length ≤ 3) :
  Calls Tryz.prog 46 #[.pointer (some ⟨F.mb, 0, none⟩), .int .i8 op, .int .i64 n, .slice L l.length cl] w (MkPost F known w st.t At (opM F.c op n l st).1 (opM F.c op n l st).2) := by
 obtain ⟨i0, hi0, z0, z1, z2⟩ := info_parts info_int
 have I0 := kp hi0
 have I1 := kp z0
 have I2 := kp z1
 have I3 := kp z2
 clear hi0 z0 z1 z2
 have HS := kp (show opM F.c op n l st = if st.e ≠ 0 then (v0, st)
  else match opS op (l.map Prod.fst) with
   | none => (v0, { st with e := 33 })
   | some s => putM F.c ⟨op, l.length, nthN l 0, nthN l 1, nthN l 2, s, 0, if F.c.build then n else 0⟩ st from rfl)
 have HM := kp (hm.keep ((Below.refl w.heap.size w).alloc (Nat.le_refl _) (.cells #[.int .i64 0, .int .i64 0] 69)))
 have RB := kp (Bk.new w (.cells #[.int .i64 0, .int .i64 0] 69))
 have B1 := kp ((Below.refl w.heap.size w).alloc (Nat.le_refl _) (.cells #[.int .i64 0, .int .i64 0] 69))
 have HZ1 := kp (show (w.alloc (.cells #[.int .i64 0, .int .i64 0] 69)).heap.size = w.heap.size + 1 by simp)
 have hlt := hm.lt
 have HFr := kp (hm.new_far (Nat.le_refl w.heap.size))
 have HFx := kp (hm.new_far (show w.heap.size ≤ w.heap.size + 1 by omega))
 have HOp := kp (fun W A c hc hcl hcm => tyop_any (w := W) (A := A) (l := l.map Prod.fst) (c := c) op hop hc (by rw [List.length_map]; omega) hcl hcm)
 have HOs := kp (opProg_some (op := op) (l := l.map Prod.fst))
 have HSi := kp (fun s h => opS_i64 (op := op) (l := l.map Prod.fst) (s := s) h (fun x hx => by obtain ⟨v, hv, rfl⟩ := List.mem_map.1 hx; exact (lies_vi hl v hv).1))
 have HNi := kp (nthN_i64 (lies_vi hl))
 unfold OpPost at HOp
 rw [List.length_map] at HOp
 have HL := kp hl
 have HK := kp ((Keeps.refl (onMb F) w).alloc (.cells #[.int .i64 0, .int .i64 0] 69))
 clear hl
 generalize opM F.c op n l st = res at *
 go_enter Tryz.func46, Tryz.ntmps46
 go_upto_region 1 with fail
 generalize w.alloc (.cells #[.int .i64 0, .int .i64 0] 69) = w1 at *
 obtain ⟨m0, m1, m2, m3, m4, m5, m6, m7, m8, mf⟩ := Bk.c9 HM.out.blk
 by_cases he0 : st.e = 0
 ·have he1 : (st.e != 0) = false := by simp [he0]
  replace HS := kp (HS.out.trans (if_neg (by simp [he0])))
  have HE0 := kp he0
  have hl128 : (l.length : Int) < 128 := by omega
  clear he0
  go_upto_region 4 with fail
  have hlt1 : F.mb < w1.heap.size := by rw [HZ1.out]; omega
  have MA := kp (HM.out.keep ((Below.refl w1.heap.size w1).alloc (Nat.le_refl _) (.cells #[.int .i8 op, .int .i8 (l.length : Int), .int .i64 0, .int .i64 0, .int .i64 0, .int .i64 0, .int .i64 0, .int .i64 n] 55)))
  clear m0 m1 m2 m3 m4 m5 m6 m7 m8 mf
  obtain ⟨m0, m1, m2, m3, m4, m5, m6, m7, m8, mf⟩ := Bk.c9 MA.out.blk
  have HZ2 := kp (show F.mb < w.heap.size + 1 by omega)
  cases hbu : F.c.build with
  | false =>
   rw [hbu] at HS m5
   have hnz : I64 0 := v0_VI.1
   clear hbu
   go_upto_region 6 with fail
   clear m0 m1 m2 m3 m4 m5 m6 m7 m8 mf MA
   have XB := kp (show (w1.alloc (.cells #[.int .i8 op, .int .i8 (l.length : Int), .int .i64 0, .int .i64 0, .int .i64 0, .int .i64 0, .int .i64 0, .int .i64 0] 55)).heap[w.heap.size + 1]? = some (.cells #[.int .i8 op, .int .i8 (l.length : Int), .int .i64 0, .int .i64 0, .int .i64 0, .int .i64 0, .int .i64 0, .int .i64 0] 55 (0, 0)) by have h := Bk.new w1 (.cells #[.int .i8 op, .int .i8 (l.length : Int), .int .i64 0, .int .i64 0, .int .i64 0, .int .i64 0, .int .i64 0, .int .i64 0] 55); rwa [HZ1.out] at h)
   have M2 := kp (HM.out.keep ((Below.refl w1.heap.size w1).alloc (Nat.le_refl _) (.cells #[.int .i8 op, .int .i8 (l.length : Int), .int .i64 0, .int .i64 0, .int .i64 0, .int .i64 0, .int .i64 0, .int .i64 0] 55)))
   have R2 := kp (Bk.keep RB.out (.cells #[.int .i8 op, .int .i8 (l.length : Int), .int .i64 0, .int .i64 0, .int .i64 0, .int .i64 0, .int .i64 0, .int .i64 0] 55))
   have B2 := kp (B1.out.alloc B1.out.size (.cells #[.int .i8 op, .int .i8 (l.length : Int), .int .i64 0, .int .i64 0, .int .i64 0, .int .i64 0, .int .i64 0, .int .i64 0] 55))
   have Z2 := kp (show w.heap.size + 2 ≤ (w1.alloc (.cells #[.int .i8 op, .int .i8 (l.length : Int), .int .i64 0, .int .i64 0, .int .i64 0, .int .i64 0, .int .i64 0, .int .i64 0] 55)).heap.size by simp [HZ1.out])
   try rw [HZ1.out]
   generalize w1.alloc (.cells #[.int .i8 op, .int .i8 (l.length : Int), .int .i64 0, .int .i64 0, .int .i64 0, .int .i64 0, .int .i64 0, .int .i64 0] 55) = w2 at *
   go_wp2_with fail
   go_loopw [10, 35] (fun v' i' wr => ∃ k : Nat, k ≤ l.length ∧ i' = .int .i64 k ∧ wr.ownsRow (w.heap.size + 2) 3 1 v' k (((l.take k).map Prod.fst).map (Value.int .i64)) ∧ Below w.heap.size w wr ∧ w.heap.size + 2 ≤ wr.heap.size ∧ wr.heap[w.heap.size]? = some (.cells #[.int .i64 0, .int .i64 0] 69 (0, 0)) ∧ wr.heap[w.heap.size + 1]? = some (.cells #[.int .i8 op, .int .i8 (l.length : Int), .int .i64 (argK l k 0), .int .i64 (argK l k 1), .int .i64 (argK l k 2), .int .i64 0, .int .i64 0, .int .i64 0] 55 (0, 0))) (fun _ i' _ => l.length - (intOf i').toNat)
   case atStart => exact ⟨0, Nat.zero_le _, rfl, ⟨rfl, .inl ⟨rfl, rfl⟩⟩, B2.out, Z2.out, R2.out, XB.out⟩
   case round =>
    obtain ⟨k, hk, rfl, ho, hb, hz, hr, hx⟩ := hrel
    have HO := kp ho
    have HB := kp hb
    have HZ := kp hz
    have RR := kp hr
    have XR := kp hx
    obtain ⟨Ao, co, rfl⟩ := row_shape ho
    clear ho hb hz hr hx
    by_cases hkl : k < l.length
    ·have hlt2 : (k : Int) < (l.length : Int) := by omega
     have hk3 : k < 3 := by omega
     obtain ⟨v, hv⟩ : ∃ v, l[k]? = some v := ⟨_, List.getElem?_eq_getElem hkl⟩
     obtain ⟨b, o, rfl, hbl, e0, e1, hvi⟩ := val_get (HL.out.on ValR.lasts HB.out) hv
     have HV := kp hvi
     have HSet := kp (args_set (op := op) (ln := (l.length : Int)) (n := 0) hk3 hv)
     have HTk := kp (show ((l.take (k + 1)).map Prod.fst).map (Value.int .i64) = ((l.take k).map Prod.fst).map (Value.int .i64) ++ [.int .i64 v.1] by rw [List.take_add_one, hv]; simp)
     generalize ((l.take k).map Prod.fst).map (Value.int .i64) = vk at *
     have XA := kp (Bk.keep XR.out (.cells #[.int .i64 v.1, .int .i64 v.2] 69))
     have RA := kp (Bk.keep RR.out (.cells #[.int .i64 v.1, .int .i64 v.2] 69))
     have VA := kp (Bk.new wr (.cells #[.int .i64 v.1, .int .i64 v.2] 69))
     have BA := kp (HB.out.alloc HB.out.size (.cells #[.int .i64 v.1, .int .i64 v.2] 69))
     have OA := kp (show World.ownsRow (wr.alloc (.cells #[.int .i64 v.1, .int .i64 v.2] 69)) (w.heap.size + 2) 3 1 (.slice Ao k co) k vk from HO.out.alloc _)
     have ZA := kp (show w.heap.size + 2 ≤ (wr.alloc (.cells #[.int .i64 v.1, .int .i64 v.2] 69)).heap.size by have := HZ.out; simp; omega)
     have HZr := kp (show wr.heap.size ≠ w.heap.size + 1 by have := HZ.out; omega)
     clear hv hvi HZ XR RR HB HO
     go_upto_region 10 with fail
     generalize hwa : wr.alloc (.cells #[.int .i64 v.1, .int .i64 v.2] 69) = wa at *
     clear hwa e0 e1
     have pk := NodeAt.arg' (node_block (n := ⟨op, l.length, argK l k 0, argK l k 1, argK l k 2, 0, 0, 0⟩) XA.out) hk3
     rw [Nat.zero_add] at pk
     obtain ⟨_, _, _, _, _, _, _, _, xf⟩ := Bk.c8 XA.out
     obtain ⟨v0', v1', vf⟩ := Bk.c2 VA.out
     have KB := kp ((Keeps.refl (fun b => b = w.heap.size + 1) wa).setCell (p := ⟨w.heap.size + 1, 2 + k, none⟩) (.inl rfl) (.int .i64 v.2))
     have XC := kp (Bk.set_at XA.out (2 + k) (.int .i64 v.2))
     rw [HSet.out] at XC
     have RC := kp (Bk.apart RA.out (p := ⟨w.heap.size + 1, 2 + k, none⟩) (by show w.heap.size ≠ w.heap.size + 1; omega) (.int .i64 v.2))
     have VC := kp (Bk.apart VA.out (p := ⟨w.heap.size + 1, 2 + k, none⟩) (by show wr.heap.size ≠ w.heap.size + 1; exact HZr.out) (.int .i64 v.2))
     have BC := kp (BA.out.setCell (p := ⟨w.heap.size + 1, 2 + k, none⟩) (by show w.heap.size ≤ w.heap.size + 1; omega) (.int .i64 v.2))
     have OC := kp (owns_keepE OA.out KB.out (fun b hb => by omega))
     have ZC := kp (show w.heap.size + 2 ≤ (wa.setCell ⟨w.heap.size + 1, 2 + k, none⟩ (.int .i64 v.2)).heap.size from Nat.le_trans ZA.out KB.out.size)
     go_upto_region 11 with fail
     clear v0' v1' vf pk xf XA VA BA OA ZA KB
     generalize hwc : wa.setCell ⟨w.heap.size + 1, 2 + k, none⟩ (.int .i64 v.2) = wc at *
     clear hwc
     obtain ⟨v0', v1', vf⟩ := Bk.c2 VC.out
     have OD := kp (show World.ownsRow (wc.alloc (.cells #[.int .i64 v.1] 3)) (w.heap.size + 2) 3 1 (.slice Ao k co) k vk from OC.out.alloc _)
     have CD := kp (Cells.new wc [.int .i64 v.1] 3 (0, 0))
     have XD := kp (Bk.keep XC.out (.cells #[.int .i64 v.1] 3))
     have RD := kp (Bk.keep RC.out (.cells #[.int .i64 v.1] 3))
     have BD := kp (BC.out.alloc BC.out.size (.cells #[.int .i64 v.1] 3))
     go_wp2_with (at_builtin; refine wpList_append_at rfl (.tmp 45) (.tmp 48) _ rfl (w.heap.size + 2) 3 i0 (.int .i64 0) 1 8 Tryz.underlying111 I0.out I1.out I2.out I3.out rfl (by decide) (.slice Ao k co) k vk rfl OD.out (some ⟨wc.heap.size, 0, none⟩) 1 1 [.int .i64 v.1] rfl rfl CD.out (by simp [Value.oneCell']) (by unfold maxLen; omega) (by omega) (by have := ZC.out; simp; omega) ?_)
     intro v9 w9 hown hgr hat
     have O9 := kp (show w9.ownsRow (w.heap.size + 2) 3 1 v9 (k + 1) (((l.take (k + 1)).map Prod.fst).map (Value.int .i64)) by rw [HTk.out]; exact hown)
     have HNb := kp (show ∀ j, j < w.heap.size + 2 → some j ≠ (Value.slice Ao k co).ownBlock from fun j hj e => by have := (OD.out.lt j e.symm).1; omega)
     have B9 := kp (BD.out.grown hgr (by have := BD.out.size; simpa using this) (fun j hj => by have := (OD.out.lt j hj).1; omega))
     have X9 := kp ((hgr.block _ (lt_of_block XD.out) (HNb.out _ (by omega))).trans XD.out)
     have R9 := kp ((hgr.block _ (lt_of_block RD.out) (HNb.out _ (by omega))).trans RD.out)
     have Z9 := kp (show w.heap.size + 2 ≤ w9.heap.size by have := ZC.out; have := hgr.size; simp at this; omega)
     clear hown hgr hat v0' v1' vf
     go_wp2_with fail
     go_roundw
     case rel => exact ⟨k + 1, by omega, by go_num, O9.out, B9.out, Z9.out, R9.out, X9.out⟩
     case measure => simp [intOf]; omega
    ·obtain rfl : k = l.length := by omega
     have HCp := kp (row_cap HO.out)
     have HCl := kp (Cells.own HO.out)
     rw [List.take_length] at HCl
     have HCall := kp (HOp.out wr Ao co HCl.out HCp.out.1 HCp.out.2)
     have MR := kp (hm.keep HB.out)
     cases hos : opS op (l.map Prod.fst) with
     | none =>
      obtain ⟨p1, p2⟩ := HOs.out.2 hos
      rw [hos] at HS
      generalize opProg op (l.map Prod.fst) = pr at *
      obtain ⟨pa, pb⟩ := pr
      have hpb : (pb != 0) = true := by rw [bne_iff_ne]; simp at p2; omega
      clear hos p1 p2
      go_wp2_with fail
      refine HCall.out.mono ?_
      rintro e w5 ⟨rfl, hb5⟩
      have B5 := kp (HB.out.trans (hb5.mono HB.out.size))
      have R5 := kp (Bk.on RR.out hb5)
      have M5 := kp (MR.out.keep hb5)
      have HFl := kp (fail_any hF M5.out 33 (by decide))
      clear hb5
      go_wp2_with fail
      refine HFl.out.mono ?_
      rintro e w6 ⟨rfl, hv, hk6, A6, c6, hm6, ht6⟩
      have R6 := kp ((hk6.block w.heap.size (lt_of_block R5.out) (by unfold onMb; omega)).trans R5.out)
      have M6 := kp hm6
      have K6 := kp ((Keeps.of_below B5.out (onMb F)).trans_same hk6)
      have HT6 := kp (ht6.mono B5.out.size)
      have HF6 := kp (Far.of_tn HFr.out ht6 (lt_of_block R5.out))
      have HSf := kp (show failS 33 st = { st with e := 33 } by unfold failS; rw [if_pos HE0.out])
      rw [HSf.out] at M6 HT6 HF6
      unfold valV v0
      clear hv hk6 hm6 ht6
      obtain ⟨r0, r1, rf⟩ := Bk.c2 R6.out
      go_wp2_with fail
      rw [HS.out]
      refine mk_end (v := v0) hF Tryz.results46 M6.out hlt K6.out HT6.out (Nat.le_refl _) HF6.out R6.out ?_ ?_ v0_VI <;> rfl
     | some s =>
      have hp := HOs.out.1 s hos
      have hsi := HSi.out s hos
      rw [hp] at HCall
      rw [hos] at HS
      clear hos hp
      go_wp2_with fail
      refine HCall.out.mono ?_
      rintro e w5 ⟨rfl, hb5⟩
      have B5 := kp (HB.out.trans (hb5.mono HB.out.size))
      have R5 := kp (Bk.on RR.out hb5)
      have X5 := kp (Bk.on XR.out hb5)
      have M5 := kp (MR.out.keep hb5)
      clear hb5
      obtain ⟨x0, x1, x2, x3, x4, x5, x6, x7, xf⟩ := Bk.c8 X5.out
      go_upto_region 17 with fail
      clear x0 x1 x2 x3 x4 x5 x6 x7 xf
      have X6 := kp (show (w5.setCell ⟨w.heap.size + 1, 5, none⟩ (.int .i64 s)).heap[w.heap.size + 1]? = some (.cells #[.int .i8 op, .int .i8 (l.length : Int), .int .i64 (argK l l.length 0), .int .i64 (argK l l.length 1), .int .i64 (argK l l.length 2), .int .i64 s, .int .i64 0, .int .i64 0] 55 (0, 0)) from Bk.set_at X5.out 5 (.int .i64 s))
      have R6 := kp (Bk.apart R5.out (p := ⟨w.heap.size + 1, 5, none⟩) (by show w.heap.size ≠ w.heap.size + 1; omega) (.int .i64 s))
      have M6 := kp (M5.out.other hF (by omega) HFx.out 5 (.int .i64 s))
      have B6 := kp (B5.out.setCell (p := ⟨w.heap.size + 1, 5, none⟩) (by show w.heap.size ≤ w.heap.size + 1; omega) (.int .i64 s))
      generalize w5.setCell ⟨w.heap.size + 1, 5, none⟩ (.int .i64 s) = w6 at *
      have HNI := kp (show NodeI ⟨op, l.length, argK l l.length 0, argK l l.length 1, argK l l.length 2, s, 0, 0⟩ from ⟨hop, by show I8 (l.length : Int); unfold I8; simp [Lit.wf]; rw [show IntKind.i8.min = -128 by rfl, show IntKind.i8.max = 127 by rfl]; omega, (argK_full l 0).symm ▸ HNi.out 0, (argK_full l 1).symm ▸ HNi.out 1, (argK_full l 2).symm ▸ HNi.out 2, hsi, v0_VI.1, hnz⟩)
      have HPut := kp (put_any hF M6.out HNI.out)
      replace HS := kp (show res = putM F.c ⟨op, l.length, argK l l.length 0, argK l l.length 1, argK l l.length 2, s, 0, 0⟩ st by rw [HS.out, argK_full, argK_full, argK_full]; rfl)
      rw [← HS.out] at HPut
      obtain ⟨x0, x1, x2, x3, x4, x5, x6, x7, xf⟩ := Bk.c8 X6.out
      go_wp2_with fail
      refine HPut.out.mono ?_
      rintro e w7 ⟨rfl, hv, hk7, A7, c7, hm7, ht7⟩
      have R7 := kp ((hk7.block w.heap.size (lt_of_block R6.out) (by unfold onMb; omega)).trans R6.out)
      have M7 := kp hm7
      have K7 := kp ((Keeps.of_below B6.out (onMb F)).trans_same hk7)
      have HT7 := kp (ht7.mono B6.out.size)
      have HF7 := kp (Far.of_tn HFr.out ht7 (lt_of_block R6.out))
      unfold valV
      clear hk7 hm7 ht7 HS x0 x1 x2 x3 x4 x5 x6 x7 xf
      obtain ⟨r0, r1, rf⟩ := Bk.c2 R7.out
      go_wp2_with fail
      refine mk_end (v := res.1) hF Tryz.results46 M7.out hlt K7.out HT7.out (Nat.le_refl _) HF7.out R7.out ?_ ?_ hv <;> rfl
  | true =>
   rw [hbu] at HS m5
   clear hbu
   go_upto_region 6 with fail
   clear m0 m1 m2 m3 m4 m5 m6 m7 m8 mf MA
   have XB := kp (show (w1.alloc (.cells #[.int .i8 op, .int .i8 (l.length : Int), .int .i64 0, .int .i64 0, .int .i64 0, .int .i64 0, .int .i64 0, .int .i64 n] 55)).heap[w.heap.size + 1]? = some (.cells #[.int .i8 op, .int .i8 (l.length : Int), .int .i64 0, .int .i64 0, .int .i64 0, .int .i64 0, .int .i64 0, .int .i64 n] 55 (0, 0)) by have h := Bk.new w1 (.cells #[.int .i8 op, .int .i8 (l.length : Int), .int .i64 0, .int .i64 0, .int .i64 0, .int .i64 0, .int .i64 0, .int .i64 n] 55); rwa [HZ1.out] at h)
   have M2 := kp (HM.out.keep ((Below.refl w1.heap.size w1).alloc (Nat.le_refl _) (.cells #[.int .i8 op, .int .i8 (l.length : Int), .int .i64 0, .int .i64 0, .int .i64 0, .int .i64 0, .int .i64 0, .int .i64 n] 55)))
   have R2 := kp (Bk.keep RB.out (.cells #[.int .i8 op, .int .i8 (l.length : Int), .int .i64 0, .int .i64 0, .int .i64 0, .int .i64 0, .int .i64 0, .int .i64 n] 55))
   have B2 := kp (B1.out.alloc B1.out.size (.cells #[.int .i8 op, .int .i8 (l.length : Int), .int .i64 0, .int .i64 0, .int .i64 0, .int .i64 0, .int .i64 0, .int .i64 n] 55))
   have Z2 := kp (show w.heap.size + 2 ≤ (w1.alloc (.cells #[.int .i8 op, .int .i8 (l.length : Int), .int .i64 0, .int .i64 0, .int .i64 0, .int .i64 0, .int .i64 0, .int .i64 n] 55)).heap.size by simp [HZ1.out])
   try rw [HZ1.out]
   generalize w1.alloc (.cells #[.int .i8 op, .int .i8 (l.length : Int), .int .i64 0, .int .i64 0, .int .i64 0, .int .i64 0, .int .i64 0, .int .i64 n] 55) = w2 at *
   go_wp2_with fail
   go_loopw [10, 35] (fun v' i' wr => ∃ k : Nat, k ≤ l.length ∧ i' = .int .i64 k ∧ wr.ownsRow (w.heap.size + 2) 3 1 v' k (((l.take k).map Prod.fst).map (Value.int .i64)) ∧ Below w.heap.size w wr ∧ w.heap.size + 2 ≤ wr.heap.size ∧ wr.heap[w.heap.size]? = some (.cells #[.int .i64 0, .int .i64 0] 69 (0, 0)) ∧ wr.heap[w.heap.size + 1]? = some (.cells #[.int .i8 op, .int .i8 (l.length : Int), .int .i64 (argK l k 0), .int .i64 (argK l k 1), .int .i64 (argK l k 2), .int .i64 0, .int .i64 0, .int .i64 n] 55 (0, 0))) (fun _ i' _ => l.length - (intOf i').toNat)
   case atStart => exact ⟨0, Nat.zero_le _, rfl, ⟨rfl, .inl ⟨rfl, rfl⟩⟩, B2.out, Z2.out, R2.out, XB.out⟩
   case round =>
    obtain ⟨k, hk, rfl, ho, hb, hz, hr, hx⟩ := hrel
    have HO := kp ho
    have HB := kp hb
    have HZ := kp hz
    have RR := kp hr
    have XR := kp hx
    obtain ⟨Ao, co, rfl⟩ := row_shape ho
    clear ho hb hz hr hx
    by_cases hkl : k < l.length
    ·have hlt2 : (k : Int) < (l.length : Int) := by omega
     have hk3 : k < 3 := by omega
     obtain ⟨v, hv⟩ : ∃ v, l[k]? = some v := ⟨_, List.getElem?_eq_getElem hkl⟩
     obtain ⟨b, o, rfl, hbl, e0, e1, hvi⟩ := val_get (HL.out.on ValR.lasts HB.out) hv
     have HV := kp hvi
     have HSet := kp (args_set (op := op) (ln := (l.length : Int)) (n := n) hk3 hv)
     have HTk := kp (show ((l.take (k + 1)).map Prod.fst).map (Value.int .i64) = ((l.take k).map Prod.fst).map (Value.int .i64) ++ [.int .i64 v.1] by rw [List.take_add_one, hv]; simp)
     generalize ((l.take k).map Prod.fst).map (Value.int .i64) = vk at *
     have XA := kp (Bk.keep XR.out (.cells #[.int .i64 v.1, .int .i64 v.2] 69))
     have RA := kp (Bk.keep RR.out (.cells #[.int .i64 v.1, .int .i64 v.2] 69))
     have VA := kp (Bk.new wr (.cells #[.int .i64 v.1, .int .i64 v.2] 69))
     have BA := kp (HB.out.alloc HB.out.size (.cells #[.int .i64 v.1, .int .i64 v.2] 69))
     have OA := kp (show World.ownsRow (wr.alloc (.cells #[.int .i64 v.1, .int .i64 v.2] 69)) (w.heap.size + 2) 3 1 (.slice Ao k co) k vk from HO.out.alloc _)
     have ZA := kp (show w.heap.size + 2 ≤ (wr.alloc (.cells #[.int .i64 v.1, .int .i64 v.2] 69)).heap.size by have := HZ.out; simp; omega)
     have HZr := kp (show wr.heap.size ≠ w.heap.size + 1 by have := HZ.out; omega)
     clear hv hvi HZ XR RR HB HO
     go_upto_region 10 with fail
     generalize hwa : wr.alloc (.cells #[.int .i64 v.1, .int .i64 v.2] 69) = wa at *
     clear hwa e0 e1
     have pk := NodeAt.arg' (node_block (n := ⟨op, l.length, argK l k 0, argK l k 1, argK l k 2, 0, 0, n⟩) XA.out) hk3
     rw [Nat.zero_add] at pk
     obtain ⟨_, _, _, _, _, _, _, _, xf⟩ := Bk.c8 XA.out
     obtain ⟨v0', v1', vf⟩ := Bk.c2 VA.out
     have KB := kp ((Keeps.refl (fun b => b = w.heap.size + 1) wa).setCell (p := ⟨w.heap.size + 1, 2 + k, none⟩) (.inl rfl) (.int .i64 v.2))
     have XC := kp (Bk.set_at XA.out (2 + k) (.int .i64 v.2))
     rw [HSet.out] at XC
     have RC := kp (Bk.apart RA.out (p := ⟨w.heap.size + 1, 2 + k, none⟩) (by show w.heap.size ≠ w.heap.size + 1; omega) (.int .i64 v.2))
     have VC := kp (Bk.apart VA.out (p := ⟨w.heap.size + 1, 2 + k, none⟩) (by show wr.heap.size ≠ w.heap.size + 1; exact HZr.out) (.int .i64 v.2))
     have BC := kp (BA.out.setCell (p := ⟨w.heap.size + 1, 2 + k, none⟩) (by show w.heap.size ≤ w.heap.size + 1; omega) (.int .i64 v.2))
     have OC := kp (owns_keepE OA.out KB.out (fun b hb => by omega))
     have ZC := kp (show w.heap.size + 2 ≤ (wa.setCell ⟨w.heap.size + 1, 2 + k, none⟩ (.int .i64 v.2)).heap.size from Nat.le_trans ZA.out KB.out.size)
     go_upto_region 11 with fail
     clear v0' v1' vf pk xf XA VA BA OA ZA KB
     generalize hwc : wa.setCell ⟨w.heap.size + 1, 2 + k, none⟩ (.int .i64 v.2) = wc at *
     clear hwc
     obtain ⟨v0', v1', vf⟩ := Bk.c2 VC.out
     have OD := kp (show World.ownsRow (wc.alloc (.cells #[.int .i64 v.1] 3)) (w.heap.size + 2) 3 1 (.slice Ao k co) k vk from OC.out.alloc _)
     have CD := kp (Cells.new wc [.int .i64 v.1] 3 (0, 0))
     have XD := kp (Bk.keep XC.out (.cells #[.int .i64 v.1] 3))
     have RD := kp (Bk.keep RC.out (.cells #[.int .i64 v.1] 3))
     have BD := kp (BC.out.alloc BC.out.size (.cells #[.int .i64 v.1] 3))
     go_wp2_with (at_builtin; refine wpList_append_at rfl (.tmp 45) (.tmp 48) _ rfl (w.heap.size + 2) 3 i0 (.int .i64 0) 1 8 Tryz.underlying111 I0.out I1.out I2.out I3.out rfl (by decide) (.slice Ao k co) k vk rfl OD.out (some ⟨wc.heap.size, 0, none⟩) 1 1 [.int .i64 v.1] rfl rfl CD.out (by simp [Value.oneCell']) (by unfold maxLen; omega) (by omega) (by have := ZC.out; simp; omega) ?_)
     intro v9 w9 hown hgr hat
     have O9 := kp (show w9.ownsRow (w.heap.size + 2) 3 1 v9 (k + 1) (((l.take (k + 1)).map Prod.fst).map (Value.int .i64)) by rw [HTk.out]; exact hown)
     have HNb := kp (show ∀ j, j < w.heap.size + 2 → some j ≠ (Value.slice Ao k co).ownBlock from fun j hj e => by have := (OD.out.lt j e.symm).1; omega)
     have B9 := kp (BD.out.grown hgr (by have := BD.out.size; simpa using this) (fun j hj => by have := (OD.out.lt j hj).1; omega))
     have X9 := kp ((hgr.block _ (lt_of_block XD.out) (HNb.out _ (by omega))).trans XD.out)
     have R9 := kp ((hgr.block _ (lt_of_block RD.out) (HNb.out _ (by omega))).trans RD.out)
     have Z9 := kp (show w.heap.size + 2 ≤ w9.heap.size by have := ZC.out; have := hgr.size; simp at this; omega)
     clear hown hgr hat v0' v1' vf
     go_wp2_with fail
     go_roundw
     case rel => exact ⟨k + 1, by omega, by go_num, O9.out, B9.out, Z9.out, R9.out, X9.out⟩
     case measure => simp [intOf]; omega
    ·obtain rfl : k = l.length := by omega
     have HCp := kp (row_cap HO.out)
     have HCl := kp (Cells.own HO.out)
     rw [List.take_length] at HCl
     have HCall := kp (HOp.out wr Ao co HCl.out HCp.out.1 HCp.out.2)
     have MR := kp (hm.keep HB.out)
     cases hos : opS op (l.map Prod.fst) with
     | none =>
      obtain ⟨p1, p2⟩ := HOs.out.2 hos
      rw [hos] at HS
      generalize opProg op (l.map Prod.fst) = pr at *
      obtain ⟨pa, pb⟩ := pr
      have hpb : (pb != 0) = true := by rw [bne_iff_ne]; simp at p2; omega
      clear hos p1 p2
      go_wp2_with fail
      refine HCall.out.mono ?_
      rintro e w5 ⟨rfl, hb5⟩
      have B5 := kp (HB.out.trans (hb5.mono HB.out.size))
      have R5 := kp (Bk.on RR.out hb5)
      have M5 := kp (MR.out.keep hb5)
      have HFl := kp (fail_any hF M5.out 33 (by decide))
      clear hb5
      go_wp2_with fail
      refine HFl.out.mono ?_
      rintro e w6 ⟨rfl, hv, hk6, A6, c6, hm6, ht6⟩
      have R6 := kp ((hk6.block w.heap.size (lt_of_block R5.out) (by unfold onMb; omega)).trans R5.out)
      have M6 := kp hm6
      have K6 := kp ((Keeps.of_below B5.out (onMb F)).trans_same hk6)
      have HT6 := kp (ht6.mono B5.out.size)
      have HF6 := kp (Far.of_tn HFr.out ht6 (lt_of_block R5.out))
      have HSf := kp (show failS 33 st = { st with e := 33 } by unfold failS; rw [if_pos HE0.out])
      rw [HSf.out] at M6 HT6 HF6
      unfold valV v0
      clear hv hk6 hm6 ht6
      obtain ⟨r0, r1, rf⟩ := Bk.c2 R6.out
      go_wp2_with fail
      rw [HS.out]
      refine mk_end (v := v0) hF Tryz.results46 M6.out hlt K6.out HT6.out (Nat.le_refl _) HF6.out R6.out ?_ ?_ v0_VI <;> rfl
     | some s =>
      have hp := HOs.out.1 s hos
      have hsi := HSi.out s hos
      rw [hp] at HCall
      rw [hos] at HS
      clear hos hp
      go_wp2_with fail
      refine HCall.out.mono ?_
      rintro e w5 ⟨rfl, hb5⟩
      have B5 := kp (HB.out.trans (hb5.mono HB.out.size))
      have R5 := kp (Bk.on RR.out hb5)
      have X5 := kp (Bk.on XR.out hb5)
      have M5 := kp (MR.out.keep hb5)
      clear hb5
      obtain ⟨x0, x1, x2, x3, x4, x5, x6, x7, xf⟩ := Bk.c8 X5.out
      go_upto_region 17 with fail
      clear x0 x1 x2 x3 x4 x5 x6 x7 xf
      have X6 := kp (show (w5.setCell ⟨w.heap.size + 1, 5, none⟩ (.int .i64 s)).heap[w.heap.size + 1]? = some (.cells #[.int .i8 op, .int .i8 (l.length : Int), .int .i64 (argK l l.length 0), .int .i64 (argK l l.length 1), .int .i64 (argK l l.length 2), .int .i64 s, .int .i64 0, .int .i64 n] 55 (0, 0)) from Bk.set_at X5.out 5 (.int .i64 s))
      have R6 := kp (Bk.apart R5.out (p := ⟨w.heap.size + 1, 5, none⟩) (by show w.heap.size ≠ w.heap.size + 1; omega) (.int .i64 s))
      have M6 := kp (M5.out.other hF (by omega) HFx.out 5 (.int .i64 s))
      have B6 := kp (B5.out.setCell (p := ⟨w.heap.size + 1, 5, none⟩) (by show w.heap.size ≤ w.heap.size + 1; omega) (.int .i64 s))
      generalize w5.setCell ⟨w.heap.size + 1, 5, none⟩ (.int .i64 s) = w6 at *
      have HNI := kp (show NodeI ⟨op, l.length, argK l l.length 0, argK l l.length 1, argK l l.length 2, s, 0, n⟩ from ⟨hop, by show I8 (l.length : Int); unfold I8; simp [Lit.wf]; rw [show IntKind.i8.min = -128 by rfl, show IntKind.i8.max = 127 by rfl]; omega, (argK_full l 0).symm ▸ HNi.out 0, (argK_full l 1).symm ▸ HNi.out 1, (argK_full l 2).symm ▸ HNi.out 2, hsi, v0_VI.1, hn⟩)
      have HPut := kp (put_any hF M6.out HNI.out)
      replace HS := kp (show res = putM F.c ⟨op, l.length, argK l l.length 0, argK l l.length 1, argK l l.length 2, s, 0, n⟩ st by rw [HS.out, argK_full, argK_full, argK_full]; rfl)
      rw [← HS.out] at HPut
      obtain ⟨x0, x1, x2, x3, x4, x5, x6, x7, xf⟩ := Bk.c8 X6.out
      go_wp2_with fail
      refine HPut.out.mono ?_
      rintro e w7 ⟨rfl, hv, hk7, A7, c7, hm7, ht7⟩
      have R7 := kp ((hk7.block w.heap.size (lt_of_block R6.out) (by unfold onMb; omega)).trans R6.out)
      have M7 := kp hm7
      have K7 := kp ((Keeps.of_below B6.out (onMb F)).trans_same hk7)
      have HT7 := kp (ht7.mono B6.out.size)
      have HF7 := kp (Far.of_tn HFr.out ht7 (lt_of_block R6.out))
      unfold valV
      clear hk7 hm7 ht7 HS x0 x1 x2 x3 x4 x5 x6 x7 xf
      obtain ⟨r0, r1, rf⟩ := Bk.c2 R7.out
      go_wp2_with fail
      refine mk_end (v := res.1) hF Tryz.results46 M7.out hlt K7.out HT7.out (Nat.le_refl _) HF7.out R7.out ?_ ?_ hv <;> rfl
 ·have he1 : (st.e != 0) = true := by simp [he0]
  replace HS := kp (HS.out.trans (if_pos he0))
  clear he0
  obtain ⟨r0, r1, rf⟩ := Bk.c2 RB.out
  go_wp2_with fail
  rw [HS.out]
  refine mk_end (v := v0) hF Tryz.results46 HM.out hlt HK.out (TN.refl _ _ _) (Nat.le_refl _) HFr.out RB.out ?_ ?_ v0_VI <;> rfl
end Go.Proofs.YtpmdcckapddchaaGreat.El
