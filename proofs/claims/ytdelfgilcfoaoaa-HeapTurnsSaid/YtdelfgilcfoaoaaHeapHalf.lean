/- Halve: the plain part, and what a sort of the rows leaves in memory. -/
import Derived.Test.YtdelfgilcfoaoaaHeapRise
import Derived.Test.YtdelfgilcfoaoaaShelf
namespace Go.Proofs.Ytdelfgilcfoaoaa.Hp
open Go.RowKit Go.Shelf Go.Sort

def halfSt (s : St) : St := { s with act := fun i => s.act i / 2 }
def halfTo (s : St) (k : Nat) : St := { s with act := fun i => if i < k then s.act i / 2 else s.act i }
def rowSt (s : St) (f : Nat → Nat) : St := { s with row := f }
/-- the places told anew from the rows -/
def placed (f : Nat → Nat) (p : Nat → Int) : Nat → Nat → Int
  | 0 => p
  | k + 1 => upd (placed f p k) (f k) k
def placeSt (s : St) (k : Nat) : St := { s with pos := placed s.row s.pos k }
theorem placed_at {f : Nat → Nat} {p : Nat → Int} {m : Nat} (hi : ∀ j k, j < m → k < m → f j = f k → j = k) : ∀ k, k ≤ m → ∀ j, j < k → placed f p k (f j) = j := by
  intro k
  induction k with
  | zero => intro _ j hj; omega
  | succ k ih =>
    intro hk j hj
    show upd (placed f p k) (f k) k (f j) = j
    by_cases e : f j = f k
    · rw [e, upd_self, hi j k (by omega) (by omega) e]
    · rw [upd_other _ _ e]; exact ih (by omega) j (by rcases Nat.lt_succ_iff_lt_or_eq.1 hj with h | h; exact h; exact absurd (by rw [h]) e)
theorem placed_off {f : Nat → Nat} {p : Nat → Int} {x : Nat} : ∀ k, (∀ j, j < k → f j ≠ x) → placed f p k x = p x := by
  intro k
  induction k with
  | zero => intro _; rfl
  | succ k ih =>
    intro h
    show upd (placed f p k) (f k) k x = p x
    rw [upd_other _ _ (Ne.symm (h k (by omega)))]; exact ih (fun j hj => h j (by omega))

/-- the state after Halve, its rows laid anew -/
def halvedSt (s : St) (f : Nat → Nat) : St := placeSt (rowSt (halfSt s) f) s.m
structure Sorts (s : St) (f : Nat → Nat) : Prop where
  lt : ∀ k, k < s.m → f k < s.n
  inj : ∀ j k, j < s.m → k < s.m → f j = f k → j = k
  same : ∀ x, (∃ k, k < s.m ∧ f k = x) ↔ ∃ k, k < s.m ∧ s.row k = x
theorem Sorts.has {s : St} {f : Nat → Nat} (h : Sorts s f) (hf : Fit s) {x : Nat} (hx : x < s.n) : 0 ≤ (halvedSt s f).pos x ↔ 0 ≤ s.pos x := by
  show 0 ≤ placed f s.pos s.m x ↔ _
  by_cases e : ∃ k, k < s.m ∧ f k = x
  · obtain ⟨k, hk, rfl⟩ := e
    rw [placed_at h.inj s.m (Nat.le_refl _) k hk]
    obtain ⟨j, hj, e⟩ := (h.same (f k)).1 ⟨k, hk, rfl⟩
    have := hf.back j hj
    rw [e] at this; omega
  · rw [placed_off s.m (fun j hj e2 => e ⟨j, hj, e2⟩)]
theorem Sorts.fit {s : St} {f : Nat → Nat} (h : Sorts s f) (hf : Fit s) : Fit (halvedSt s f) := by
  refine ⟨hf.small, fun i hi => ?_, fun k hk => h.lt k hk, fun k hk => placed_at h.inj s.m (Nat.le_refl _) k hk, fun x hx => ?_, ?_⟩
  · have := hf.acts i hi
    show 0 ≤ s.act i / 2 ∧ s.act i / 2 ≤ 1099511627776
    omega
  · show placed f s.pos s.m x = -1 ∨ (0 ≤ placed f s.pos s.m x ∧ placed f s.pos s.m x < (s.m : Int) ∧ f (placed f s.pos s.m x).toNat = x)
    by_cases e : ∃ k, k < s.m ∧ f k = x
    · obtain ⟨k, hk, rfl⟩ := e
      rw [placed_at h.inj s.m (Nat.le_refl _) k hk]
      exact .inr ⟨by omega, by omega, by rw [Int.toNat_natCast]⟩
    · rw [placed_off s.m (fun j hj e2 => e ⟨j, hj, e2⟩)]
      rcases hf.place x hx with h1 | ⟨h1, h2, h3⟩
      · exact .inl h1
      · exact absurd ((h.same x).2 ⟨_, by omega, h3⟩) e
  · rw [show (halvedSt s f).m = s.m from rfl, hf.many]
    exact cnt_congr (fun i hi => by rw [decide_eq_decide]; exact (h.has hf hi).symm)
theorem Sorts.ord {s : St} {f : Nat → Nat} (h : Sorts s f) (ha : ∀ i j, i < j → j < s.m → ¬ Hp.ahead (halfSt s).act (f j) (f i)) : Ord (halvedSt s f) := by
  intro c h0 hc
  have hc' : c < s.m := hc
  show Hp.ahead (halfSt s).act (f ((c - 1) / 2)) (f c)
  rcases ahead_total (act := (halfSt s).act) (a := f ((c - 1) / 2)) (b := f c) (fun e => by have := h.inj _ _ (by omega) hc' e; omega) with h1 | h1
  · exact h1
  · exact absurd h1 (ha _ _ (by omega) hc')

section
variable {O : Nat → Prop} {w : World} {H ba bt : Nat} {rv : Value} {s : St}
theorem Mem.act_congr (h : Mem O w H ba bt rv s) (f : Nat → Int) (hf : ∀ i, i < s.n → f i = s.act i) : Mem O w H ba bt rv { s with act := f } := by
  obtain ⟨cs, h1, h2⟩ := h.act
  exact ⟨h.obj, ⟨cs, h1, fun i hi => (h2 i hi).trans (by show _ = some (Value.int .i64 (f i)); rw [hf i hi])⟩, h.pos, h.row, h.ne, h.oH, h.ot⟩

/-- how a node stands in a cell -/
def encN {n : Nat} (x : Fin n) : Value := .int .i64 (x.val : Int)
theorem sort_block {α : Type} [Inhabited α] {w : World} {enc : α → Value} {br n : Nat} {d : Array α} {os : Array Obj} {k : Nat} (hk : k < w.heap.size) (hne : k ≠ br) : (sortWorld enc w br 0 n d os).heap[k]? = w.heap[k]? := by
  unfold sortWorld
  rw [heap_grow_old _ _ (by simpa [putRow, mapBlock, Sort.ahead] using hk)]
  simp only [putRow, mapBlock, Array.getElem?_modify]
  rw [if_neg (Ne.symm hne)]; rfl
theorem sort_row {α : Type} [Inhabited α] {w : World} {enc : α → Value} {br n : Nat} {d : Array α} {os : Array Obj} {cs : Array Value} {e : TypeId} {fr : Nat × Nat} (hb : w.heap[br]? = some (.cells cs e fr)) : (sortWorld enc w br 0 n d os).heap[br]? = some (.cells (putCells enc 0 d cs) e fr) := by
  unfold sortWorld
  rw [heap_grow_old _ _ (by simpa [putRow, mapBlock, Sort.ahead] using lt_of_block hb)]
  simp only [putRow, mapBlock, Array.getElem?_modify, if_true]
  show Option.map _ w.heap[br]? = _
  rw [hb]; rfl
theorem sort_keeps {α : Type} [Inhabited α] {O : Nat → Prop} {w : World} {enc : α → Value} {br n : Nat} {d : Array α} {os : Array Obj} (hO : O br) : Keeps O w (sortWorld enc w br 0 n d os) :=
  ⟨rfl, rfl, rfl, by simp [sortWorld, putRow, mapBlock, Sort.ahead], fun k hk hs => sort_block hk (fun e => hs (by rw [e]; exact hO))⟩
theorem Mem.sorted [Inhabited (Fin s.n)] {br m cap : Nat} (h : Mem O w H ba bt (.slice (some ⟨br, 0, none⟩) m cap) s) (n : Nat) (d : Array (Fin s.n)) (os : Array Obj) (hd : d.size = s.m) :
    Mem O (sortWorld encN w br 0 n d os) H ba bt (.slice (some ⟨br, 0, none⟩) m cap) (rowSt s fun k => (d[k]!).val) := by
  obtain ⟨ca, ct, h1⟩ := h.obj
  obtain ⟨cs, h2, h2'⟩ := h.act
  obtain ⟨cp, h3, h3'⟩ := h.pos
  rcases h.row with h4 | ⟨br', cap', cr, h4, h5, h6, h7, h8, h9, h10, h11, h12⟩
  · simp at h4
  · simp only [Value.slice.injEq, Option.some.injEq, Addr.mk.injEq, and_true] at h4
    obtain ⟨rfl, rfl, rfl⟩ := h4
    have hHr : H ≠ br := by rintro rfl; rw [h1] at h5; simp at h5
    refine ⟨⟨ca, ct, by rw [sort_block (lt_of_block h1) hHr]; exact h1⟩, ⟨cs, by rw [sort_block (lt_of_block h2) (Ne.symm h10)]; exact h2, h2'⟩, ⟨cp, by rw [sort_block (lt_of_block h3) (Ne.symm h11)]; exact h3, h3'⟩, ?_, h.ne, h.oH, h.ot⟩
    refine .inr ⟨br, cap, _, rfl, sort_row h5, h6, h7, by rw [← h8]; simp [putCells], fun k hk => ?_, h10, h11, h12⟩
    have hk' : k < s.m := hk
    simp only [putCells, Array.getElem?_mapIdx]
    rw [Array.getElem?_eq_getElem (by omega), Option.map_some, if_pos ⟨by omega, by omega⟩]; rfl

/-- the rows as the sort takes them -/
def rowsArr {s : St} (hf : Fit s) : Array (Fin s.n) := Array.ofFn (fun k : Fin s.m => (⟨s.row k, hf.node k k.2⟩ : Fin s.n))
theorem rowsArr_size {s : St} (hf : Fit s) : (rowsArr hf).size = s.m := by simp [rowsArr]
theorem rowsArr_at [Inhabited (Fin s.n)] (hf : Fit s) {k : Nat} (hk : k < s.m) : ((rowsArr hf)[k]!).val = s.row k := by
  rw [getElem!_pos _ k (by rw [rowsArr_size]; exact hk)]; simp [rowsArr]
theorem rowsArr_holds [Inhabited (Fin s.n)] {w : World} (hf : Fit s) {br : Nat} (hc : ∀ k, k < s.m → w.cell? ⟨br, k, none⟩ = some (.int .i64 (s.row k))) (hz : ∀ k, w.frozen? ⟨br, k, none⟩ = false) : Holds encN w br 0 (rowsArr hf) := by
  intro j hj
  rw [rowsArr_size] at hj
  rw [Nat.zero_add]
  exact ⟨by rw [hc j hj, encN, rowsArr_at hf hj], hz j⟩
def leadB {n : Nat} (act : Nat → Int) (x y : Fin n) : Int := if aheadB act x.val y.val = true then -1 else 1
theorem lead_lt {n : Nat} {act : Nat → Int} {x y : Fin n} : ltOf (leadB act) x y = aheadB act x.val y.val := by
  unfold ltOf leadB
  cases aheadB act x.val y.val <;> simp
theorem lead_swo {n : Nat} [Inhabited (Fin n)] {act : Nat → Int} : SWO (ltOf (leadB (n := n) act)) := by
  refine ⟨fun x => ?_, fun x y z h1 h2 => ?_, fun x y z h1 h2 => ?_⟩
  · rw [lead_lt, aheadB_no]; exact ahead_irrefl
  · rw [lead_lt, aheadB_iff] at *; exact ahead_trans h1 h2
  · rw [lead_lt, aheadB_no] at *
    unfold Hp.ahead at *; omega
theorem Sorts.of_perm [Inhabited (Fin s.n)] (hf : Fit s) {d : Array (Fin s.n)} (hp : PermIn 0 (rowsArr hf).size (rowsArr hf) d) : Sorts s (fun k => (d[k]!).val) := by
  obtain ⟨hs, _, hp⟩ := hp
  rw [rowsArr_size] at hs hp
  have e1 : d.extract 0 s.m = d := by rw [← hs]; simp
  have e2 : (rowsArr hf).extract 0 s.m = rowsArr hf := by rw [← rowsArr_size hf]; simp
  rw [e1, e2] at hp
  have at_d : ∀ k, (hk : k < s.m) → d.toList[k]'(by simp; omega) = d[k]! := fun k hk => by rw [getElem!_pos d k (by omega)]; simp
  have at_r : ∀ k, (hk : k < s.m) → (rowsArr hf).toList[k]'(by simp [rowsArr_size]; omega) = (rowsArr hf)[k]! := fun k hk => by rw [getElem!_pos (rowsArr hf) k (by rw [rowsArr_size]; omega)]; simp
  have mem_d : ∀ x : Fin s.n, x ∈ d.toList ↔ ∃ k, k < s.m ∧ d[k]! = x := fun x => by
    rw [List.mem_iff_getElem]
    exact ⟨fun ⟨k, hk, e⟩ => ⟨k, by simp at hk; omega, by rw [← at_d k (by simp at hk; omega)]; exact e⟩, fun ⟨k, hk, e⟩ => ⟨k, by simp; omega, by rw [at_d k hk]; exact e⟩⟩
  have mem_r : ∀ x : Fin s.n, x ∈ (rowsArr hf).toList ↔ ∃ k, k < s.m ∧ s.row k = x.val := fun x => by
    rw [List.mem_iff_getElem]
    exact ⟨fun ⟨k, hk, e⟩ => ⟨k, by simp [rowsArr_size] at hk; omega, by rw [← rowsArr_at hf (by simp [rowsArr_size] at hk; omega), ← at_r k (by simp [rowsArr_size] at hk; omega)]; rw [e]⟩,
      fun ⟨k, hk, e⟩ => ⟨k, by simp [rowsArr_size]; omega, by rw [at_r k hk]; exact Fin.ext (by rw [rowsArr_at hf hk]; exact e)⟩⟩
  have nd : (rowsArr hf).toList.Nodup := by
    rw [List.Nodup, List.pairwise_iff_getElem]
    intro i j hi hj hij e
    simp [rowsArr_size] at hi hj
    rw [at_r i hi, at_r j hj] at e
    have := hf.inj hi hj (by rw [← rowsArr_at hf hi, ← rowsArr_at hf hj, e])
    omega
  have ndd : d.toList.Nodup := hp.nodup_iff.2 nd
  refine ⟨fun k hk => (d[k]!).2, fun j k hj hk e => ?_, fun x => ⟨fun ⟨k, hk, e⟩ => ?_, fun ⟨k, hk, e⟩ => ?_⟩⟩
  · have e2 : d[j]! = d[k]! := Fin.ext e
    rw [← at_d j hj, ← at_d k hk] at e2
    rw [List.Nodup, List.pairwise_iff_getElem] at ndd
    rcases Nat.lt_trichotomy j k with h1 | h1 | h1
    · exact absurd e2 (ndd j k (by simp; omega) (by simp; omega) h1)
    · exact h1
    · exact absurd e2.symm (ndd k j (by simp; omega) (by simp; omega) h1)
  · obtain ⟨j, hj, e2⟩ := (mem_r (d[k]!)).1 (hp.mem_iff.1 ((mem_d _).2 ⟨k, hk, rfl⟩))
    exact ⟨j, hj, e2.trans e⟩
  · obtain ⟨j, hj, e2⟩ := (mem_d ⟨x, by rw [← e]; exact hf.node k hk⟩).1 (hp.mem_iff.2 ((mem_r ⟨x, by rw [← e]; exact hf.node k hk⟩).2 ⟨k, hk, e⟩))
    exact ⟨j, hj, by rw [e2]⟩

end

set_option maxHeartbeats 800000 in
/-- the sort's own question -/
theorem cmp_raw {w : World} {c H ba : Nat} {n ca : Nat} (hb : w.cell? ⟨c, 0, none⟩ = some (.pointer (some ⟨H, 0, none⟩))) (c0 : w.cell? ⟨H, 0, none⟩ = some (.slice (some ⟨ba, 0, none⟩) n ca)) (a b : Nat) (x y : Int) (ha : a < n) (hb2 : b < n)
    (hx : w.cell? ⟨ba, a, none⟩ = some (.int .i64 x)) (hy : w.cell? ⟨ba, b, none⟩ = some (.int .i64 y)) :
    Calls Try.prog 32 #[.int .i64 a, .int .i64 b, .pointer (some ⟨c, 0, none⟩)] w fun e w' => e = .returned (.int .i64 (if (decide (y < x) || (x == y && decide (a < b))) = true then -1 else 1)) ∧ ∃ q, w' = w.drewN q := by
  have hA := Lib.hid (ahead_raw c0 a b x y ha hb2 hx hy)
  cases hd : (decide (y < x) || (x == y && decide (a < b))) with
  | true =>
    rw [hd] at hA
    clear hx hy c0
    go_enter Try.func32, Try.ntmps32
    go_wp2_with fail
    refine hA.out.mono ?_
    rintro e w' ⟨rfl, q, rfl⟩
    go_wp2_with fail
    go_ret
    exact ⟨rfl, _, rfl⟩
  | false =>
    rw [hd] at hA
    clear hx hy c0
    go_enter Try.func32, Try.ntmps32
    go_wp2_with fail
    refine hA.out.mono ?_
    rintro e w' ⟨rfl, q, rfl⟩
    go_wp2_with fail
    go_ret
    exact ⟨rfl, _, rfl⟩
end Go.Proofs.Ytdelfgilcfoaoaa.Hp
