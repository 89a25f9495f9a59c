/- Sorted: the walk. -/
import Derived.Test.YtdelfgilcfoaoaaHeapClone
import Derived.Deep.RegionHeld3
namespace Go.Proofs.Ytdelfgilcfoaoaa.Hp
open Go.RowKit

/-- as At, the activities not owned -/
def AtP (O : Nat → Prop) (N : Nat) (w : World) (H : Nat) (a : Ab) : Prop := ∃ ba bt rv s, Mem O w H ba bt rv s ∧ ba < N ∧ Fit s ∧ Ord s ∧ Ab.Eq (abOf s) a
theorem AtP.keep {O S : Nat → Prop} {N : Nat} {w w' : World} {H : Nat} {a : Ab} (h : AtP O N w H a) (hk : Keeps S w w') (hS : ∀ k, O k → ¬ S k) (hN : ∀ k, k < N → ¬ S k) : AtP O N w' H a := by
  obtain ⟨ba, bt, rv, s, h1, h2, h3⟩ := h
  exact ⟨ba, bt, rv, s, h1.keep hk hS (hN _ h2), h2, h3⟩
theorem p_pop {O : Nat → Prop} {N : Nat} {w : World} {H : Nat} {a : Ab} (h : AtP O N w H a) :
    Calls Try.prog 16 #[.pointer (some ⟨H, 0, none⟩)] w fun e w' => PopE a e ∧ AtP O N w' H (popA a) ∧ Keeps O w w' := by
  obtain ⟨ba, bt, rv, s, h1, hN, h3, h4, h5⟩ := h
  by_cases hm : s.m = 0
  · have he := (abOf_empty h3 hm).of_eq h5
    refine (pop_none h1 hm).mono ?_
    rintro e w' ⟨rfl, rfl⟩
    exact ⟨.inr ⟨he, rfl⟩, by rw [popA_empty he]; exact ⟨ba, bt, rv, s, h1, hN, h3, h4, h5⟩, Keeps.refl _ _⟩
  · have hm0 : 0 < s.m := by omega
    have hF := (abOf_first h3 h4 hm0).of_eq h5
    refine (pop_any h1 h3 h4 hm0).mono ?_
    rintro e w' ⟨rfl, rv', s', m1, m2, m3, m4, m5⟩
    exact ⟨.inl ⟨_, hF, rfl⟩, by rw [popA_first hF]; exact ⟨ba, bt, rv', s', m1, hN, m2, m3, (m4.eq.symm.trans (abOf_pop h3 hm0).symm).trans (h5.out _)⟩, m5⟩

/-- the rows and the places, copied -/
theorem clone_rows {O : Nat → Prop} {w W : World} {H ba bt : Nat} {rv : Value} {s : St} (h : Mem O w H ba bt rv s) (hf : Fit s) (hb : Below w.heap.size w W) :
    Calls Try.prog 38 #[rv] W fun e w' => ∃ v', e = .returned v' ∧ w'.ownsRow W.heap.size 3 1 v' s.m ((List.range s.m).map fun j => .int .i64 ((s.row j : Nat) : Int)) ∧ Below W.heap.size W w' := by
  have hm := h.keep (Keeps.of_below hb (fun _ => False)) (fun _ _ => id) id
  have hs := hf.small
  have hl := hf.le
  rcases hm.row with ⟨rfl, h0⟩ | ⟨br, cap, cs, rfl, h5, h6, h7, h8, h9, _⟩
  · rw [h0]
    refine (clone_ints (A := none) (cap := 0) (fun j => ((s.row j : Nat) : Int)) (Nat.zero_le _) (.inl ⟨rfl, rfl⟩)).mono ?_
    rintro e w' ⟨v', rfl, h1, _, h3⟩
    exact ⟨v', rfl, h1, h3⟩
  · refine (clone_ints (cap := cap) (n := s.m) (fun j => ((s.row j : Nat) : Int)) (by omega) (.inr ⟨br, rfl, fun j hj => ?_⟩)).mono ?_
    · rw [cell_of_cells h5]; exact h9 j hj
    · rintro e w' ⟨v', rfl, h1, _, h3⟩
      exact ⟨v', rfl, h1, h3⟩
theorem clone_pos {O : Nat → Prop} {w W : World} {H ba bt ct : Nat} {rv : Value} {s : St} (h : Mem O w H ba bt rv s) (hf : Fit s) (hb : Below w.heap.size w W) :
    Calls Try.prog 38 #[.slice (some ⟨bt, 0, none⟩) s.n ct] W fun e w' => ∃ v', e = .returned v' ∧ w'.ownsRow W.heap.size 3 1 v' s.n ((List.range s.n).map fun j => .int .i64 (s.pos j)) ∧ v' ≠ .slice none 0 0 ∧ Below W.heap.size W w' := by
  have hm := h.keep (Keeps.of_below hb (fun _ => False)) (fun _ _ => id) id
  refine (clone_ints (cap := ct) (n := s.n) s.pos hf.small (.inr ⟨bt, rfl, fun j hj => hm.pos_cell hj⟩)).mono ?_
  rintro e w' ⟨v', rfl, h1, h2, h3⟩
  exact ⟨v', rfl, h1, h2 (by simp), h3⟩
/-- a slice's length -/
def sliceLen : Value → Nat
  | .slice _ n _ => n
  | _ => 0
theorem owned_slice {w : World} {B : Nat} {t : TypeId} {v : Value} {n : Nat} {xs : List Value} (h : w.ownsRow B t 1 v n xs) : ∃ A c, v = .slice A n c := by
  rcases h.2 with ⟨rfl, rfl⟩ | ⟨g, cap, cur, rfl, _⟩
  · exact ⟨none, 0, rfl⟩
  · exact ⟨_, cap, rfl⟩
theorem owns_keep {S : Nat → Prop} {w w' : World} {B n : Nat} {t : TypeId} {v : Value} {xs : List Value} (h : w.ownsRow B t 1 v n xs) (hk : Keeps S w w') (hS : ∀ k, S k → k < B) : w'.ownsRow B t 1 v n xs := by
  refine ⟨h.1, ?_⟩
  rcases h.2 with h1 | ⟨g, cap, cur, h1, h2, h3, h4⟩
  · exact .inl h1
  · exact .inr ⟨g, cap, cur, h1, h2, by rw [hk.block _ (lt_of_block h3) (fun hs => by have := hS _ hs; omega)]; exact h3, h4⟩
theorem owns_mono {w : World} {B B' n : Nat} {t : TypeId} {v : Value} {xs : List Value} (h : w.ownsRow B t 1 v n xs) (hB : B' ≤ B) : w.ownsRow B' t 1 v n xs := by
  refine ⟨h.1, ?_⟩
  rcases h.2 with h1 | ⟨g, cap, cur, h1, h2, h3⟩
  · exact .inl h1
  · exact .inr ⟨g, cap, cur, h1, by omega, h3⟩
/-- what stands at the head of a round of Sorted's loop -/
structure SortAt (O : Nat → Prop) (w : World) (B o : Nat) (a : Ab) (v : Value) (l : List Nat) (b : Ab) (wr : World) : Prop where
  at' : AtP O w.heap.size wr o b
  own : wr.ownsRow B 3 1 v l.length (l.map fun k => .int .i64 ((k : Nat) : Int))
  path : ∀ r, Sorted b r → Sorted a (l ++ r)
  len : l.length + b.len = a.len
  keep : Below w.heap.size w wr
  size : B ≤ wr.heap.size

theorem held {w W w' : World} {H : Nat} {x0 x1 x2 : Option Value} (hH : H < w.heap.size) (hB : Below w.heap.size w W) (hb : Below W.heap.size W w') (c0 : w.cell? ⟨H, 0, none⟩ = x0) (c1 : w.cell? ⟨H, 1, none⟩ = x1) (c2 : w.cell? ⟨H, 2, none⟩ = x2) :
    w'.cell? ⟨H, 0, none⟩ = x0 ∧ w'.cell? ⟨H, 1, none⟩ = x1 ∧ w'.cell? ⟨H, 2, none⟩ = x2 ∧ Below w.heap.size w w' := by
  have h := hB.trans (hb.mono hB.size)
  exact ⟨((bcell h).1 H 0 hH).trans c0, ((bcell h).1 H 1 hH).trans c1, ((bcell h).1 H 2 hH).trans c2, h⟩

theorem copy_mem {O : Nat → Prop} {w w2 w3 : World} {H ba bt ca p2 p3 : Nat} {rv : Value} {s : St} {A2 A3 : Option Addr} (h : Mem O w H ba bt rv s) (hB2 : Below w.heap.size w w2) (hb3 : Below w2.heap.size w2 w3)
    (hown2 : w2.ownsRow w.heap.size 3 1 (.slice A2 s.m p2) s.m ((List.range s.m).map fun j => .int .i64 ((s.row j : Nat) : Int)))
    (hown3 : w3.ownsRow w2.heap.size 3 1 (.slice A3 s.n p3) s.n ((List.range s.n).map fun j => .int .i64 (s.pos j))) (hne3 : Value.slice A3 s.n p3 ≠ .slice none 0 0) :
    ∃ bt', Mem (fun k => w.heap.size ≤ k ∧ k < w3.heap.size + 1) (w3.alloc (.cells #[.slice (some ⟨ba, 0, none⟩) s.n ca, .slice A2 s.m p2, .slice A3 s.n p3] 48)) w3.heap.size ba bt' (.slice A2 s.m p2) s := by
  have hB3 := hB2.trans (hb3.mono hB2.size)
  have z2 := hB2.size
  have z3 := hb3.size
  obtain ⟨cs, h2, h2'⟩ := h.act
  have hba := lt_of_block h2
  have old : ∀ (k : Nat) (o : Obj), k < w3.heap.size → (w3.alloc o).heap[k]? = w3.heap[k]? := fun k o hk => by
    show (w3.heap.push o)[k]? = _
    rw [Array.getElem?_push, if_neg (by omega)]
  rcases hown3.2 with ⟨e, _⟩ | ⟨g, cap, cur, e, hg, hgh, hnc, hcm, hcs, htk⟩
  · exact absurd e hne3
  · simp only [Value.slice.injEq, true_and] at e
    obtain ⟨rfl, rfl⟩ := e
    have hgl := lt_of_block hgh
    refine ⟨g, ⟨⟨ca, p3, by show (w3.heap.push _)[w3.heap.size]? = _; exact Array.getElem?_push_size⟩, ⟨cs, by rw [old _ _ (by omega), hB3.block _ hba]; exact h2, h2'⟩, ⟨cur, by rw [old _ _ hgl]; exact hgh, fun i hi => ?_⟩, ?_, by omega, ⟨by omega, by omega⟩, ⟨by omega, by omega⟩⟩⟩
    · have h9 : (cur.toList.take (s.n * 1))[i]? = some (.int .i64 (s.pos i)) := by rw [htk]; simp [hi]
      rw [List.getElem?_take, if_pos (by omega)] at h9
      simpa using h9
    · rcases hown2.2 with ⟨e, h0⟩ | ⟨g2, cap2, cur2, e, hg2, hgh2, hnc2, hcm2, hcs2, htk2⟩
      · left; exact ⟨e, h0⟩
      · right
        simp only [Value.slice.injEq, true_and] at e
        obtain ⟨rfl, rfl⟩ := e
        have hgl2 := lt_of_block hgh2
        refine ⟨g2, p2, cur2, rfl, by rw [old _ _ (by omega), hb3.block _ hgl2]; exact hgh2, hnc2, hcm2, by omega, fun k hk => ?_, by omega, by omega, ⟨by omega, by omega⟩⟩
        have h9 : (cur2.toList.take (s.m * 1))[k]? = some (.int .i64 ((s.row k : Nat) : Int)) := by rw [htk2]; simp [hk]
        rw [List.getElem?_take, if_pos (by omega)] at h9
        simpa using h9

set_option maxRecDepth 100000 in
set_option maxHeartbeats 3200000 in
theorem sorted_any {O : Nat → Prop} {w : World} {H : Nat} {a : Ab} (h : At O w H a) :
    Calls Try.prog 27 #[.pointer (some ⟨H, 0, none⟩)] w fun e w' => ∃ v l, e = .returned v ∧ Sorted a l ∧ w'.ownsRow w.heap.size 3 1 v l.length (l.map fun k => .int .i64 ((k : Nat) : Int)) ∧ Below w.heap.size w w' := by
  obtain ⟨ba, bt, rv, s, h1, h2, h3, h4, h5⟩ := h
  obtain ⟨ca, ct, c0, c1, c2, _⟩ := h1.obj_cells
  have HM := Lib.hid h1
  have HF := Lib.hid h3
  obtain ⟨_, hac, _⟩ := h1.act
  have HBa := Lib.hid (lt_of_block hac)
  have HO := Lib.hid h4
  obtain ⟨_, _, ho1⟩ := h1.obj
  have hHl := lt_of_block ho1
  have hB0 : Below w.heap.size w w.drew := (Below.refl w.heap.size w).drew
  clear h1 h3 h4 h2 ho1 hac
  go_enter Try.func27, Try.ntmps27
  go_wp2_with fail
  go_region_held3 (fun w' => w'.cell? ⟨H, 0, none⟩ = some (.slice (some ⟨ba, 0, none⟩) s.n ca) ∧ w'.cell? ⟨H, 1, none⟩ = some rv ∧ w'.cell? ⟨H, 2, none⟩ = some (.slice (some ⟨bt, 0, none⟩) s.n ct) ∧ Below w.heap.size w w') (go_keep)
    (first | (go_at_call 38; refine (clone_shape (clone_rows HM.out HF.out hB0)).mono ?_; rintro e w2 ⟨A2, p2, rfl, hown2, hb2⟩; obtain ⟨e0, e1, e2, hB2⟩ := held hHl hB0 hb2 c0 c1 c2) | (go_at_call 38; refine (clone_shape (clone_pos HM.out HF.out hB2)).mono ?_; rintro e w3 ⟨A3, p3, rfl, hown3, hne3, hb3⟩; obtain ⟨f0, f1, f2, hB3⟩ := held hHl hB2 hb3 c0 c1 c2; have hB4 : ∀ o, Below w.heap.size w (w3.alloc o) := fun o => Below.alloc hB3 hB3.size o))
  have HB := Lib.hid hB3
  have HL := Lib.hid (show a.len ≤ 65536 by rw [h5.len, abOf_len HF.out]; exact Nat.le_trans HF.out.le HF.out.small)
  obtain ⟨bt', hM⟩ := copy_mem (ca := ca) HM.out hB2 hb3 hown2 hown3 hne3
  have H0 := Lib.hid (show SortAt (fun k => w.heap.size ≤ k ∧ k < w3.heap.size + 1) w (w3.heap.size + 1) w3.heap.size a (.slice none 0 0) [] a (w3.alloc (.cells #[.slice (some ⟨ba, 0, none⟩) s.n ca, .slice A2 s.m p2, .slice A3 s.n p3] 48)) from
    ⟨⟨ba, bt', _, s, hM, HBa.out, HF.out, HO.out, h5⟩, ⟨rfl, .inl ⟨rfl, rfl⟩⟩, fun r hr => hr, by simp, hB4 _, by show _ ≤ (w3.heap.push _).size; rw [Array.size_push]; omega⟩)
  clear hM hown2 hown3 hne3 hb2 hb3 e0 e1 e2 f0 f1 f2 c0 c1 c2 hB2 hB3 hB4 hB0
  generalize (w3.alloc (.cells #[.slice (some ⟨ba, 0, none⟩) s.n ca, .slice A2 s.m p2, .slice A3 s.n p3] 48)) = w4 at *
  go_wp2_with fail
  go_loopw [2] (fun v wr => ∃ l b, SortAt (fun k => w.heap.size ≤ k ∧ k < w3.heap.size + 1) w (w3.heap.size + 1) w3.heap.size a v l b wr) (fun v _ => a.len - sliceLen v)
  case atStart => exact ⟨[], a, H0.out⟩
  case round =>
    obtain ⟨l, b, hS⟩ := hrel
    have HS := Lib.hid hS
    obtain ⟨Av, cv, rfl⟩ := owned_slice hS.own
    clear hS
    go_wp2_with fail
    refine (p_pop HS.out.at').mono ?_
    rintro e w5 ⟨he, hat, hk⟩
    have hown5 := owns_keep HS.out.own hk (fun k hk => hk.2)
    have hb5 := HS.out.keep.trans (hk.below (B := w.heap.size) (fun k hk => hk.1) HS.out.keep.size)
    rcases he with ⟨k, hF, rfl⟩ | ⟨he, rfl⟩
    · rw [popA_first hF] at hat
      have HA5 := Lib.hid hat
      have HB5 := Lib.hid hb5
      have HO5 := Lib.hid hown5
      have HF5 := Lib.hid hF
      have hz5 := hk.size
      have hsz := HS.out.size
      have hlen : l.length < 65536 := by
        have h1 := HS.out.len
        have h2 := hF.len
        have h3 := HL.out
        omega
      obtain ⟨i0, hi0, hz0, hz1, hz2⟩ := info_parts info_int
      clear hat hb5 hown5 hk hF
      go_wp2_with (at_builtin; refine wpList_append_own_at _ rfl (.tmp 36) (.tmp 38) _ rfl (w3.heap.size + 1) 3 i0 (.int .i64 0) 1 8 Try.underlying42 hi0 hz0 hz1 hz2 rfl (by decide) (.slice Av l.length cv) l.length (l.map fun k => .int .i64 ((k : Nat) : Int)) rfl ?c1 ⟨w5.heap.size, 0, none⟩ 1 1 [.int .i64 k] rfl rfl ?c2 ?c3 ?c4 ?c5 ?c6 ?c7)
      case c1 => exact HO5.out.alloc _
      case c2 => exact cell_one_new _ _ _
      case c3 => simp [Value.oneCell']
      case c4 => unfold maxLen; omega
      case c5 => omega
      case c6 => show _ ≤ (w5.heap.push _).size; rw [Array.size_push]; omega
      intro v' w6 hown hgr _ _
      have hkk : Keeps (fun j => w3.heap.size + 1 ≤ j) w5 w6 := ((Keeps.refl _ w5).alloc _).grown hgr (fun j hj => by
        left
        rcases HO5.out.2 with ⟨e, _⟩ | ⟨g, cap, cur, e, h2, _⟩
        · rw [e] at hj; simp [Value.ownBlock] at hj
        · rw [e] at hj; simp [Value.ownBlock] at hj; omega)
      have HN := Lib.hid (show SortAt (fun k => w.heap.size ≤ k ∧ k < w3.heap.size + 1) w (w3.heap.size + 1) w3.heap.size a v' (l ++ [k]) (b.out k) w6 from
        ⟨HA5.out.keep hkk (fun j hj hs => by omega) (fun j hj hs => by have := HB.out.size; omega), by simpa using hown, fun r hr => by have := HS.out.path (k :: r) (.cons HF5.out hr); simpa using this,
          by have h1 := HS.out.len; have h2 := HF5.out.len; rw [List.length_append, List.length_singleton]; omega,
          HB5.out.trans (hkk.below (B := w.heap.size) (fun j hj => by have := HB.out.size; omega) HB5.out.size), by have := hkk.size; omega⟩)
      obtain ⟨Aw, cw, rfl⟩ := owned_slice hown
      have HG := Lib.hid (HF5.out.len)
      clear hown hgr hkk
      go_wp2_with fail
      go_roundw
      case rel => exact ⟨_, _, HN.out⟩
      case measure =>
        have h1 := HS.out.len
        have h2 := HG.out
        simp [sliceLen]; omega
    · have HE := Lib.hid (show Sorted a l ∧ w5.ownsRow w.heap.size 3 1 (.slice Av l.length cv) l.length (l.map fun k => .int .i64 ((k : Nat) : Int)) from
        ⟨by have := HS.out.path [] (.nil he); rwa [List.append_nil] at this, owns_mono hown5 (by have := HB.out.size; omega)⟩)
      clear hat hk hown5
      have HB5 := Lib.hid hb5
      clear hb5
      go_wp2_with fail
      go_ret
      exact ⟨_, l, rfl, HE.out.1, HE.out.2, HB5.out⟩
end Go.Proofs.Ytdelfgilcfoaoaa.Hp
