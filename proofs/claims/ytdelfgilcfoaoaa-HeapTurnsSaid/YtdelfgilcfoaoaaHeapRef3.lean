/- The document's heap: Sorted; two slices held against each other. -/
import Derived.Test.YtdelfgilcfoaoaaHeapRef2
import Derived.Test.YtdelfgilcfoaoaaOwn2
import Derived.Deep.AppendLies
namespace Go.Proofs.Ytdelfgilcfoaoaa.Hp
open Go.RowKit

def innList (a : Ab) : List Value := (List.range a.n).map fun i => .bool (a.inn i)
theorem RMem.inn_cells {w : World} {G ga gi : Nat} {a : Ab} (h : RMem w G ga gi a) : Cells w (some ⟨gi, 0, none⟩) (innList a) := by
  obtain ⟨cs, h1, h2⟩ := h.inn
  refine .inr ⟨gi, 0, rfl, lt_of_block h1, fun j u hu => ?_⟩
  have hj : j < a.n := by have := (List.getElem?_eq_some_iff.1 hu).1; simpa [innList] using this
  rw [Nat.zero_add, h.inn_cell hj, ← hu]
  simp [innList, hj]
theorem rcopy_mem {w w1 : World} {G ga gi ca : Nat} {a : Ab} {v : Value} (h : RMem w G ga gi a) (hb : Below w.heap.size w w1) (hown : w1.ownsRow w.heap.size 4 1 v a.n (innList a)) (hv : v.ownBlock ≠ none) :
    ∃ gi', w.heap.size ≤ gi' ∧ RMem (w1.alloc (.cells #[.slice (some ⟨ga, 0, none⟩) a.n ca, v] 57)) w1.heap.size ga gi' a := by
  obtain ⟨cs, h2, h2'⟩ := h.act
  have z1 := hb.size
  have hga := lt_of_block h2
  have old : ∀ (k : Nat) (o : Obj), k < w1.heap.size → (w1.alloc o).heap[k]? = w1.heap[k]? := fun k o hk => by
    show (w1.heap.push o)[k]? = _
    rw [Array.getElem?_push, if_neg (by omega)]
  rcases hown.2 with ⟨e, _⟩ | ⟨g, cap, cur, e, hg, hgh, hnc, hcm, hcs, htk⟩
  · subst e; exact absurd rfl hv
  · subst e
    have hgl := lt_of_block hgh
    refine ⟨g, hg, ⟨ca, cap, by show (w1.heap.push _)[w1.heap.size]? = _; exact Array.getElem?_push_size⟩, ⟨cs, by rw [old _ _ (by omega), hb.block _ hga]; exact h2, h2'⟩, ⟨cur, by rw [old _ _ hgl]; exact hgh, fun i hi => ?_⟩, h.acts, h.small⟩
    have h9 : (cur.toList.take (a.n * 1))[i]? = some (.bool (a.inn i)) := by rw [htk]; simp [innList, hi]
    rw [List.getElem?_take, if_pos (by omega)] at h9
    simpa using h9

/-- what stands at the head of a round of Sorted's loop -/
structure RSortAt (w : World) (B G ga : Nat) (a : Ab) (v : Value) (l : List Nat) (b : Ab) (gi : Nat) (wr : World) : Prop where
  at' : RMem wr G ga gi b
  own : wr.ownsRow B 3 1 v l.length (l.map fun k => .int .i64 ((k : Nat) : Int))
  path : ∀ r, Sorted b r → Sorted a (l ++ r)
  len : l.length + b.len = a.len
  keep : Below w.heap.size w wr
  size : B ≤ wr.heap.size
  low : G < B ∧ ga < B ∧ gi < B ∧ w.heap.size ≤ gi

set_option maxHeartbeats 800000 in
theorem rsorted_nil (w : World) :
    Calls Try.prog 28 #[.pointer none] w fun e w' => e = .returned (.slice none 0 0) ∧ w = w' := by
  go_enter Try.func28, Try.ntmps28
  go_wp2_with fail
  go_ret
  exact ⟨rfl, rfl⟩
set_option maxHeartbeats 800000 in
theorem sorted_nil (w : World) :
    Calls Try.prog 27 #[.pointer none] w fun e w' => e = .returned (.slice none 0 0) ∧ w = w' := by
  go_enter Try.func27, Try.ntmps27
  go_wp2_with fail
  go_ret
  exact ⟨rfl, rfl⟩

set_option maxRecDepth 100000 in
set_option maxHeartbeats 6400000 in
theorem rsorted_any {w : World} {G ga gi : Nat} {a : Ab} (h : RMem w G ga gi a) :
    Calls Try.prog 28 #[.pointer (some ⟨G, 0, none⟩)] w fun e w' => ∃ v l, e = .returned v ∧ Sorted a l ∧ w'.ownsRow w.heap.size 3 1 v l.length (l.map fun k => .int .i64 ((k : Nat) : Int)) ∧ Below w.heap.size w w' := by
  obtain ⟨ca, ci, c0, c1⟩ := h.obj_cells
  have HM := Lib.hid h
  have hn := h.small
  have hGl := lt_of_block h.obj.choose_spec.choose_spec
  obtain ⟨i0, hi0, hz0, hz1, hz2⟩ := info_parts info_bool
  have HGa := Lib.hid (lt_of_block h.act.choose_spec.1)
  have HC := Lib.hid (fun (W : World) (hb : Below w.heap.size w W) => h.inn_cells.on hb)
  clear h
  go_enter Try.func28, Try.ntmps28
  go_wp2_with fail
  go_region_held3 (fun w' => w'.cell? ⟨G, 0, none⟩ = some (.slice (some ⟨ga, 0, none⟩) a.n ca) ∧ w'.cell? ⟨G, 1, none⟩ = some (.slice (some ⟨gi, 0, none⟩) a.n ci))
    (first
      | go_keep
      | (go_split_ands
         refine ⟨?_, ?_⟩
         · (rw [hgrow.cell_far _ (by simp; omega) (by simp [Value.ownBlock]; omega)]; assumption)
         · (rw [hgrow.cell_far _ (by simp; omega) (by simp [Value.ownBlock]; omega)]; assumption)))
    ((refine step_append_at (by rfl) _ _ _ (by rfl) w.heap.size 4 i0 (.bool false) 1 1 Try.underlying55 hi0 hz0 hz1 hz2 rfl (by decide) (.slice (some ⟨w.heap.size, 0, none⟩) 0 0) 0 [] (by rfl) ((owns_empty w 4 1).drew) (some ⟨gi, 0, none⟩) a.n ci (innList a) (by rfl) (by simp [innList]) (HC.out _ (((Below.refl _ _).alloc (Nat.le_refl _) _).drew)) (by simp [innList, Value.oneCell']) (by unfold maxLen; omega) (by omega) (by simp) ?_; intro v' w1 hown hgrow hat; obtain ⟨Av, cv, rfl⟩ := owned_slice hown))
  have hbw : Below w.heap.size w w1 := (((Below.refl _ _).alloc (Nat.le_refl _) _).drew).grown hgrow (by simp) (fun k hk => by simp [Value.ownBlock] at hk; omega)
  simp only [Nat.zero_add, List.nil_append] at hown hat
  have HB := Lib.hid hbw
  have z1 := hbw.size
  obtain ⟨gi', hgi, hM⟩ := rcopy_mem (ca := ca) HM.out hbw hown (by rcases hat with e | e <;> rw [e] <;> simp [Value.ownBlock])
  have HL := Lib.hid (show a.len ≤ 65536 from Nat.le_trans (cnt_le _ _) hn)
  have hgl := lt_of_block hM.inn.choose_spec.1
  have H0 := Lib.hid (show RSortAt w (w1.heap.size + 1) w1.heap.size ga a (.slice none 0 0) [] a gi' (w1.alloc (.cells #[.slice (some ⟨ga, 0, none⟩) a.n ca, .slice Av a.n cv] 57)) from
    ⟨hM, ⟨rfl, .inl ⟨rfl, rfl⟩⟩, fun r hr => hr, by simp, Below.alloc hbw hbw.size _, by show _ ≤ (w1.heap.push _).size; rw [Array.size_push]; omega, ⟨by omega, by have := HGa.out; omega, by
      have : (w1.alloc (.cells #[.slice (some ⟨ga, 0, none⟩) a.n ca, .slice Av a.n cv] 57)).heap.size = w1.heap.size + 1 := by show (w1.heap.push _).size = _; rw [Array.size_push]
      omega, hgi⟩⟩)
  clear hM hown hat hgrow hbw c0 c1 hgl hgi
  generalize (w1.alloc (.cells #[.slice (some ⟨ga, 0, none⟩) a.n ca, .slice Av a.n cv] 57)) = w4 at *
  go_wp2_with fail
  go_loopw [4] (fun v wr => ∃ l b, RSortAt w (w1.heap.size + 1) w1.heap.size ga a v l b gi' wr) (fun v _ => a.len - sliceLen v)
  case atStart => exact ⟨[], a, H0.out⟩
  case round =>
    obtain ⟨l, b, hS⟩ := hrel
    have HS := Lib.hid hS
    obtain ⟨Av', cv', rfl⟩ := owned_slice hS.own
    clear hS
    go_wp2_with fail
    refine (rpop_any HS.out.at').mono ?_
    rintro e w5 ⟨he, hat, hk⟩
    have hown5 := owns_keep HS.out.own hk (fun k hk => by rw [hk]; exact HS.out.low.2.2.1)
    have hb5 := HS.out.keep.trans (hk.below (B := w.heap.size) (fun k hk => by rw [hk]; exact HS.out.low.2.2.2) HS.out.keep.size)
    rcases he with ⟨k, hF, rfl⟩ | ⟨he, rfl⟩
    · rw [popA_first hF] at hat
      have HA5 := Lib.hid hat
      have HB5 := Lib.hid hb5
      have HO5 := Lib.hid hown5
      have HF5 := Lib.hid hF
      have hz5 := hk.size
      have hsz := HS.out.size
      have hlen : l.length < 65536 := by
        have h1 := HS.out.len
        have h2 := hF.len
        have h3 := HL.out
        omega
      obtain ⟨j0, hj0, hy0, hy1, hy2⟩ := info_parts info_int
      clear hat hb5 hown5 hk hF hi0 hz0 hz1 hz2
      go_wp2_with (at_builtin; refine wpList_append_own_at _ rfl (.tmp 29) (.tmp 31) _ rfl (w1.heap.size + 1) 3 j0 (.int .i64 0) 1 8 Try.underlying42 hj0 hy0 hy1 hy2 rfl (by decide) (.slice Av' l.length cv') l.length (l.map fun k => .int .i64 ((k : Nat) : Int)) rfl ?c1 ⟨w5.heap.size, 0, none⟩ 1 1 [.int .i64 k] rfl rfl ?c2 ?c3 ?c4 ?c5 ?c6 ?c7)
      case c1 => exact HO5.out.alloc _
      case c2 => exact cell_one_new _ _ _
      case c3 => simp [Value.oneCell']
      case c4 => unfold maxLen; omega
      case c5 => omega
      case c6 => show _ ≤ (w5.heap.push _).size; rw [Array.size_push]; omega
      intro v' w6 hown hgr _ _
      have hkk : Keeps (fun j => w1.heap.size + 1 ≤ j) w5 w6 := ((Keeps.refl _ w5).alloc _).grown hgr (fun j hj => by
        left
        rcases HO5.out.2 with ⟨e, _⟩ | ⟨g, cap, cur, e, h2, _⟩
        · rw [e] at hj; simp [Value.ownBlock] at hj
        · rw [e] at hj; simp [Value.ownBlock] at hj; omega)
      have HN := Lib.hid (show RSortAt w (w1.heap.size + 1) w1.heap.size ga a v' (l ++ [k]) (b.out k) gi' w6 from
        ⟨HA5.out.keep hkk (by have := HS.out.low; omega) (by have := HS.out.low; omega) (by have := HS.out.low; omega), by simpa using hown, fun r hr => by have := HS.out.path (k :: r) (.cons HF5.out hr); simpa using this,
          by have h1 := HS.out.len; have h2 := HF5.out.len; rw [List.length_append, List.length_singleton]; omega,
          HB5.out.trans (hkk.below (B := w.heap.size) (fun j hj => by have := HB.out.size; omega) HB5.out.size), by have := hkk.size; omega, HS.out.low⟩)
      obtain ⟨Aw, cw, rfl⟩ := owned_slice hown
      have HG := Lib.hid (HF5.out.len)
      clear hown hgr hkk
      go_wp2_with fail
      go_roundw
      case rel => exact ⟨_, _, HN.out⟩
      case measure =>
        have h1 := HS.out.len
        have h2 := HG.out
        simp [sliceLen]; omega
    · have HE := Lib.hid (show Sorted a l ∧ w5.ownsRow w.heap.size 3 1 (.slice Av' l.length cv') l.length (l.map fun k => .int .i64 ((k : Nat) : Int)) from
        ⟨by have := HS.out.path [] (.nil he); rwa [List.append_nil] at this, owns_mono hown5 (by have := HB.out.size; omega)⟩)
      clear hat hk hown5
      have HB5 := Lib.hid hb5
      clear hb5
      go_wp2_with fail
      go_ret
      exact ⟨_, l, rfl, HE.out.1, HE.out.2, HB5.out⟩

set_option maxHeartbeats 1600000 in
theorem same_any {w : World} {A B : Option Addr} {c d : Nat} (l : List Nat) (hl : l.length ≤ 65536) (ha : Cells w A (l.map fun k => .int .i64 ((k : Nat) : Int))) (hb : Cells w B (l.map fun k => .int .i64 ((k : Nat) : Int))) :
    Calls Try.prog 26 #[.slice A l.length c, .slice B l.length d] w fun e w' => e = .returned (.bool true) ∧ ∃ q, w' = w.drewN q := by
  go_enter Try.func26, Try.ntmps26
  go_wp2_with fail
  go_loopw [5] (fun v wr => ∃ k : Nat, k ≤ l.length ∧ v = .int .i64 k ∧ ∃ q, wr = w.drewN q) (fun v _ => l.length - (intOf v).toNat)
  case atStart => exact ⟨0, Nat.zero_le _, rfl, 0, rfl⟩
  case round =>
    obtain ⟨k, hk, rfl, q, rfl⟩ := hrel
    by_cases hlt : k < l.length
    · have hlt2 : (k : Int) < (l.length : Int) := by omega
      have hx := List.getElem?_eq_getElem hlt
      generalize l[k] = x at hx
      rcases ha with h0 | ⟨b1, o1, rfl, _, h1⟩
      · simp at h0; rw [h0] at hlt; simp at hlt
      · rcases hb with h0 | ⟨b2, o2, rfl, _, h2⟩
        · simp at h0; rw [h0] at hlt; simp at hlt
        · have g1 := h1 k (.int .i64 x) (by simp [hx])
          have g2 := h2 k (.int .i64 x) (by simp [hx])
          clear h1 h2
          go_wp2_with fail
          go_quiet (fail)
          go_wp2_with fail
          go_roundw
          case rel => exact ⟨k + 1, by omega, by go_num, _, rfl⟩
          case measure => simp [intOf]; omega
    · obtain rfl : k = l.length := by omega
      go_wp2_with fail
      go_ret
      exact ⟨rfl, _, rfl⟩
end Go.Proofs.Ytdelfgilcfoaoaa.Hp
