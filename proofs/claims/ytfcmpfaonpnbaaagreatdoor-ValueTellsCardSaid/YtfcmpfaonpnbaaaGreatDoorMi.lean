import Derived.Test.YtfcmpfaonpnbaaaGreatDoorMf
import Derived.Test.YtfcmpfaonpnbaaaGreatDoorMh
import Derived.OwnWalk
/- merged by wip/merge.py from: ValPlain ValIs -/
/- What layer 9's functions answer, in plain words: no condition. -/
namespace Go.Proofs.YtfcmpfaonpnbaaaGreatDoor.Vl
open Go.RowKit Go.Proofs.YtfcmpfaonpnbaaaGreatDoor.Dt Go.Proofs.YtfcmpfaonpnbaaaGreatDoor.Sg

/-- is v one of a sort's values? -/
def valB (sz : List Int) (s v : Int) : Bool := if s = 0 then decide (v = 0 ∨ v = 1) else if s = 1 then mayB v else decide (0 ≤ v ∧ v < sz.getD (s - 2).toNat 0)
def isB (n : Nat) (sz : List Int) (s v : Int) : Bool := decide (sz.length = n) && (decide (0 ≤ s ∧ s < 2 + (n : Int)) && valB sz s v)
def Row.args (r : Row) : Int × Int × Int := (r.a0, r.a1, r.a2)
def at3 (a : Int × Int × Int) (i : Nat) : Int := if i = 0 then a.1 else if i = 1 then a.2.1 else a.2.2
def fitB (n : Nat) (sz : List Int) (len : Int) (i : Nat) (s a : Int) : Bool := if (i : Int) < len then isB n sz s a else a == 0
def fitsTo (n : Nat) (sz : List Int) (f : Fun4) (a : Int × Int × Int) (k : Nat) : Bool := allTo (fun i => fitB n sz f.len i (argOf f i) (at3 a i)) k
def fitsB (n : Nat) (sz : List Int) (f : Fun4) (a : Int × Int × Int) : Bool := fitsTo n sz f a 3
def onceB (l : List Row) : Bool := decide ((l.map Row.args).Nodup)
def rowOk (n : Nat) (sz : List Int) (f : Fun4) (r : Row) : Bool := fitsB n sz f (Row.args r) && isB n sz f.res r.val
def funOkW (n : Nat) (sz : List Int) (f : Fun4) (v : FunVal) : Bool := onceB v.rows && decide (v.rows.length ≤ 400) && isB n sz f.res v.els && v.rows.all (rowOk n sz f)
def funAt (g : Sig) (x : Wrld) (i : Nat) : Bool := match g.funs[i]?, x.funs[i]? with
  | some f, some v => funOkW g.sorts.length x.sizes f v
  | _, _ => true
def sizesOk (l : List Int) : Bool := l.all fun n => decide (1 ≤ n ∧ n ≤ 1000)
def mayW (g : Sig) (x : Wrld) : Bool := checkB g && decide (x.sizes.length = g.sorts.length) && decide (x.funs.length = g.funs.length) && sizesOk x.sizes && allTo (funAt g x) x.funs.length
def padA (l : List Int) : Int × Int × Int := (l.getD 0 0, l.getD 1 0, l.getD 2 0)
def noFun : Fun4 := ⟨{ data := #[] }, 0, 0, 0, 0, 0⟩
def noVal : FunVal := ⟨[], 0⟩
/-- why arguments may not be asked; 0: they may -/
def askE (g : Sig) (x : Wrld) (f : Int) (l : List Int) : Int :=
  if !mayW g x || decide (f < 0 ∨ (g.funs.length : Int) ≤ f) || decide ((l.length : Int) ≠ (g.funs.getD f.toNat noFun).len) then 2
  else if fitsB g.sorts.length x.sizes (g.funs.getD f.toNat noFun) (padA l) then 0 else 33
def rowAt (l : List Row) (a : Int × Int × Int) : Option Row := l.find? fun r => decide (Row.args r = a)
def lookV (v : FunVal) (a : Int × Int × Int) : Int := match rowAt v.rows a with
  | some r => r.val
  | none => v.els
def applyV (g : Sig) (x : Wrld) (f : Int) (l : List Int) : Int := if askE g x f l = 0 then lookV (x.funs.getD f.toNat noVal) (padA l) else 0
def hasA (l : List Row) (a : Int × Int × Int) : Bool := l.any fun r => decide (Row.args r = a)
def setV (a : Int × Int × Int) (v : Int) (r : Row) : Row := if Row.args r = a then { r with val := v } else r
def putRow (l : List Row) (a : Int × Int × Int) (v : Int) : List Row := if hasA l a then l.map (setV a v) else l ++ [⟨a.1, a.2.1, a.2.2, v⟩]
def withE (g : Sig) (x : Wrld) (f : Int) (l : List Int) (v : Int) : Int :=
  if askE g x f l ≠ 0 then askE g x f l
  else if !isB g.sorts.length x.sizes (g.funs.getD f.toNat noFun).res v then 33
  else if 400 < (putRow (x.funs.getD f.toNat noVal).rows (padA l) v).length then 2 else 0
def withX (x : Wrld) (f : Int) (l : List Int) (v : Int) : Wrld :=
  { x with funs := x.funs.set f.toNat { (x.funs.getD f.toNat noVal) with rows := putRow (x.funs.getD f.toNat noVal).rows (padA l) v } }
def withW (g : Sig) (x : Wrld) (f : Int) (l : List Int) (v : Int) : Wrld := if withE g x f l v = 0 then withX x f l v else ⟨[], []⟩
def plainW (g : Sig) : Wrld := ⟨List.replicate g.sorts.length 1, List.replicate g.funs.length noVal⟩

theorem allTo_iff {p : Nat → Bool} {k : Nat} : allTo p k = true ↔ ∀ i, i < k → p i = true := by
  unfold allTo
  rw [List.all_eq_true]
  simp
section
variable {l : List Row} {a b : Int × Int × Int} {v : Int}
theorem hasA_iff : hasA l a = true ↔ ∃ r ∈ l, Row.args r = a := by simp [hasA]
theorem hasA_not : hasA l a = false ↔ ∀ r ∈ l, Row.args r ≠ a := by rw [Bool.eq_false_iff, Ne, hasA_iff]; simp
theorem args_setV (r : Row) : Row.args (setV a v r) = Row.args r := by unfold setV; split <;> rfl
theorem args_put : (putRow l a v).map Row.args = if hasA l a then l.map Row.args else l.map Row.args ++ [a] := by
  unfold putRow
  by_cases h : hasA l a = true
  · rw [if_pos h, if_pos h, List.map_map]
    congr 1
    funext r
    exact args_setV r
  · rw [if_neg h, if_neg h, List.map_append]; rfl
theorem once_put (h : onceB l = true) : onceB (putRow l a v) = true := by
  unfold onceB at *
  rw [decide_eq_true_iff] at *
  rw [args_put]
  by_cases hh : hasA l a = true
  · rw [if_pos hh]; exact h
  · rw [if_neg hh]
    have hn := hasA_not.1 (Bool.eq_false_iff.2 hh)
    rw [List.nodup_append]
    refine ⟨h, by simp, ?_⟩
    intro x hx y hy
    rw [List.mem_singleton] at hy
    subst hy
    obtain ⟨r, hr, rfl⟩ := List.mem_map.1 hx
    exact hn r hr
theorem mem_put {r : Row} (h : r ∈ putRow l a v) : r ∈ l ∨ (Row.args r = a ∧ r.val = v) := by
  unfold putRow at h
  split at h
  · obtain ⟨q, hq, rfl⟩ := List.mem_map.1 h
    unfold setV
    split
    · rename_i e; exact .inr ⟨e, rfl⟩
    · exact .inl hq
  · rcases List.mem_append.1 h with h1 | h1
    · exact .inl h1
    · rw [List.mem_singleton] at h1; subst h1; exact .inr ⟨rfl, rfl⟩
theorem find_setV (hh : hasA l a = true) : ∃ r, rowAt (l.map (setV a v)) a = some r ∧ r.val = v := by
  obtain ⟨r, hr, he⟩ := hasA_iff.1 hh
  unfold rowAt
  cases hf : (l.map (setV a v)).find? (fun r => decide (Row.args r = a)) with
  | none =>
    exfalso
    rw [List.find?_eq_none] at hf
    have := hf (setV a v r) (List.mem_map.2 ⟨r, hr, rfl⟩)
    rw [args_setV, he] at this
    simp at this
  | some q =>
    refine ⟨q, rfl, ?_⟩
    have h1 := List.find?_some hf
    have h2 := List.mem_of_find?_eq_some hf
    obtain ⟨p, hp, rfl⟩ := List.mem_map.1 h2
    rw [decide_eq_true_iff, args_setV] at h1
    unfold setV
    rw [if_pos h1]
theorem rowAt_put : ∃ r, rowAt (putRow l a v) a = some r ∧ r.val = v := by
  unfold putRow
  by_cases hh : hasA l a = true
  · rw [if_pos hh]; exact find_setV hh
  · rw [if_neg hh]
    have hn := hasA_not.1 (Bool.eq_false_iff.2 hh)
    refine ⟨⟨a.1, a.2.1, a.2.2, v⟩, ?_, rfl⟩
    unfold rowAt
    rw [List.find?_append, List.find?_eq_none.2 (fun r hr => by simpa using hn r hr)]
    simp [Row.args]
theorem find_other (hb : b ≠ a) : ∀ l : List Row, (rowAt (l.map (setV a v)) b).map Row.val = (rowAt l b).map Row.val
  | [] => rfl
  | r :: l => by
    have ih := find_other hb l
    unfold rowAt at *
    rw [List.map_cons, List.find?_cons, List.find?_cons, args_setV]
    by_cases h : Row.args r = b
    · rw [decide_eq_true h]
      have : setV a v r = r := by unfold setV; rw [if_neg (by rw [h]; exact hb)]
      rw [this]
    · rw [decide_eq_false h]; exact ih
theorem rowAt_put_other (hb : b ≠ a) : (rowAt (putRow l a v) b).map Row.val = (rowAt l b).map Row.val := by
  unfold putRow
  by_cases hh : hasA l a = true
  · rw [if_pos hh]; exact find_other hb l
  · rw [if_neg hh]
    unfold rowAt
    rw [List.find?_append]
    cases l.find? (fun r => decide (Row.args r = b)) with
    | some r => rfl
    | none =>
      have : ¬ Row.args ⟨a.1, a.2.1, a.2.2, v⟩ = b := fun e => hb e.symm
      simp [this]
end
theorem lookV_put {v : FunVal} {a : Int × Int × Int} {n : Int} : lookV { v with rows := putRow v.rows a n } a = n := by
  obtain ⟨r, h1, h2⟩ := rowAt_put (l := v.rows) (a := a) (v := n)
  unfold lookV
  simp only [h1]
  exact h2
theorem lookV_put_other {v : FunVal} {a b : Int × Int × Int} {n : Int} (hb : b ≠ a) : lookV { v with rows := putRow v.rows a n } b = lookV v b := by
  have h := rowAt_put_other (l := v.rows) (v := n) hb
  unfold lookV
  simp only []
  cases h1 : rowAt (putRow v.rows a n) b <;> cases h2 : rowAt v.rows b <;> simp_all
end Go.Proofs.YtfcmpfaonpnbaaaGreatDoor.Vl
/- The program's value: what a sort's values are. -/
namespace Go.Proofs.YtfcmpfaonpnbaaaGreatDoor.Vl
open Go.RowKit Go.Proofs.YtfcmpfaonpnbaaaGreatDoor.Dt Go.Proofs.YtfcmpfaonpnbaaaGreatDoor.Sg

def bitB (v : Int) : Bool := decide (v = 0 ∨ v = 1)
def ownB (n v : Int) : Bool := decide (0 ≤ v ∧ v < n)
set_option maxHeartbeats 800000 in
theorem kind1_any (v : Int) (hv : I64 v) (w : World) :
    Calls Tryz.prog 52 #[.int .i64 v] w fun e w' => e = .returned (.bool (bitB v)) ∧ w = w' := by
  have h1 := hv.lo
  have h2 := hv.hi
  clear hv
  go_enter Tryz.func52, Tryz.ntmps52
  go_wp2_with fail
  go_ret
  exact ⟨ret_bool (by rw [Bool.eq_iff_iff]; simp [bitB]; omega), rfl⟩
set_option maxHeartbeats 800000 in
theorem kind2_any (v n : Int) (b : Nat) (w : World) (hc : w.cell? ⟨b, 0, none⟩ = some (.int .i64 n)) :
    Calls Tryz.prog 53 #[.int .i64 v, .pointer (some ⟨b, 0, none⟩)] w fun e w' => e = .returned (.bool (ownB n v)) ∧ w = w' := by
  by_cases h0 : 0 ≤ v
  · have h0' := decide_eq_true h0
    by_cases h1 : v < n
    · have h1' := decide_eq_true h1
      go_enter Tryz.func53, Tryz.ntmps53
      go_wp2_with fail
      go_ret
      exact ⟨ret_bool (by simp [ownB, h0, h1]), rfl⟩
    · have h1' := decide_eq_false h1
      go_enter Tryz.func53, Tryz.ntmps53
      go_wp2_with fail
      go_ret
      exact ⟨ret_bool (by simp [ownB, h1]), rfl⟩
  · have h0' := decide_eq_false h0
    go_enter Tryz.func53, Tryz.ntmps53
    go_wp2_with fail
    go_ret
    exact ⟨ret_bool (by rw [ownB, decide_eq_false (show ¬ (0 ≤ v ∧ v < n) by omega)]), rfl⟩

def kindV0 : Value := .func (Fn.func 52) #[] #[]
def kindV1 : Value := .func (Fn.func 46) #[] #[]
def kindV (b : Nat) : Value := .func (Fn.func 53) #[] #[.pointer (some ⟨b, 0, none⟩)]
/-- the kinds of the first k sorts, in a row of one's own -/
structure Kinds (base : Nat) (w : World) (v : Value) (k : Nat) (sz : List Int) : Prop where
  row : ∃ vals, w.ownsRow base 78 1 v (2 + k) vals ∧ vals[0]? = some kindV0 ∧ vals[1]? = some kindV1 ∧
    ∀ i n, i < k → sz[i]? = some n → ∃ b, vals[2 + i]? = some (kindV b) ∧ w.heap[b]? = some (.cells #[.int .i64 n] 3 (0, 0)) ∧ v.ownBlock ≠ some b
theorem owns_lit1 (w : World) (e : TypeId) (xs : List Value) (hx : xs.length ≤ maxLen) : (w.alloc (.cells xs.toArray e)).ownsRow w.heap.size e 1 (.slice (some ⟨w.heap.size, 0, none⟩) xs.length xs.length) xs.length xs :=
  ⟨by simp, .inr ⟨w.heap.size, xs.length, xs.toArray, rfl, Nat.le_refl _, by show (w.heap.push _)[w.heap.size]? = _; exact Array.getElem?_push_size, Nat.le_refl _, hx, by simp, by simp⟩⟩
theorem info_fn : (Tryz.prog.info? 78).map (fun i => (i.zero, i.size, i.bytes)) = some (some .nilFunc, 1, 8) := by kernel_rfl
theorem Kinds.push {base : Nat} {w wr w' : World} {v v' : Value} {k : Nat} {sz : List Int} {n : Int} {vals : List Value} (hk : sz[k]? = some n)
    (ho : wr.ownsRow base 78 1 v (2 + k) vals) (h0 : vals[0]? = some kindV0) (h1 : vals[1]? = some kindV1) (hv : ∀ i n, i < k → sz[i]? = some n → ∃ b, vals[2 + i]? = some (kindV b) ∧ wr.heap[b]? = some (.cells #[.int .i64 n] 3 (0, 0)) ∧ v.ownBlock ≠ some b)
    (hw : w = (wr.alloc (.cells #[.int .i64 n] 3)).alloc (.cells #[kindV wr.heap.size] 78))
    (ho' : w'.ownsRow base 78 1 v' (2 + k + 1) (vals ++ [kindV wr.heap.size])) (hg : w.grownBy w' v.ownBlock) (hat : v'.ownBlock = v.ownBlock ∨ v'.ownBlock = some (wr.heap.size + 1 + 1)) :
    Kinds base w' v' (k + 1) sz := by
  have hlen : vals.length = 2 + k := by have := ho.1; omega
  have hz : w.heap.size = wr.heap.size + 1 + 1 := by rw [hw]; simp
  have keep : ∀ (j : Nat) (o : Obj), w.heap[j]? = some o → v.ownBlock ≠ some j → w'.heap[j]? = some o := fun j o hj hne => (hg.block j (lt_of_block hj) (fun e => hne e.symm)).trans hj
  have old : ∀ (j : Nat) (o : Obj), wr.heap[j]? = some o → w.heap[j]? = some o := fun j o hj => by
    rw [hw]
    have hl := lt_of_block hj
    rw [Below.heap_alloc _ _ _ (by simp; omega), Below.heap_alloc _ _ _ hl]; exact hj
  have ne' : ∀ b o, wr.heap[b]? = some o → v.ownBlock ≠ some b → v'.ownBlock ≠ some b := fun b o hb hne e => by
    rcases hat with h | h
    · exact hne (h.symm.trans e)
    · have := lt_of_block hb
      rw [h] at e; simp at e; omega
  refine ⟨vals ++ [kindV wr.heap.size], by rw [show 2 + (k + 1) = 2 + k + 1 by omega]; exact ho', by rw [List.getElem?_append_left (by omega)]; exact h0, by rw [List.getElem?_append_left (by omega)]; exact h1, fun i m hi hm => ?_⟩
  by_cases he : i < k
  · obtain ⟨b, e1, e2, e3⟩ := hv i m he hm
    exact ⟨b, by rw [List.getElem?_append_left (by omega)]; exact e1, keep _ _ (old _ _ e2) e3, ne' b _ e2 e3⟩
  · obtain rfl : i = k := by omega
    rw [hk] at hm
    cases hm
    have hb : w.heap[wr.heap.size]? = some (.cells #[.int .i64 n] 3 (0, 0)) := by
      rw [hw, Below.heap_alloc _ _ _ (by simp)]
      exact Array.getElem?_push_size
    have hv : v.ownBlock ≠ some wr.heap.size := fun e => by have := (ho.lt _ e).2; omega
    refine ⟨wr.heap.size, by rw [List.getElem?_append_right (by omega), hlen]; simp, keep _ _ hb hv, fun e => ?_⟩
    rcases hat with h | h
    · exact hv (h.symm.trans e)
    · rw [h] at e; simp at e; omega
set_option maxRecDepth 100000 in
set_option maxHeartbeats 1600000 in
theorem kinds_any {sz : List Int} {w : World} {A : Option Addr} {c pb : Nat} (hl : Lies 1 (IntR .i64) w A sz) (hb : (sz.length : Int) ≤ 1000000) (hp : w.cell? ⟨pb, 0, none⟩ = some (.slice A sz.length c)) (hpl : pb < w.heap.size) :
    Calls Tryz.prog 34 #[.pointer (some ⟨pb, 0, none⟩)] w fun e w' => (∃ v, e = .returned v ∧ Kinds w.heap.size w' v sz.length sz) ∧ Below w.heap.size w w' := by
  have HL := Lib.hid hl
  have HB0 := Lib.hid ((Below.refl w.heap.size w).alloc (Nat.le_refl _) (.cells #[kindV0, kindV1] 78))
  have HO := Lib.hid (owns_lit1 w 78 [kindV0, kindV1] (by simp [maxLen]))
  have hp1 := ((bcell HB0.out).1 pb 0 hpl).trans hp
  obtain ⟨i0, hi0, z0, z1, z2⟩ := info_parts info_fn
  have I0 := Lib.hid hi0
  have I1 := Lib.hid z0
  have I2 := Lib.hid z1
  have I3 := Lib.hid z2
  have HK0 := Lib.hid (show Kinds w.heap.size (w.alloc (.cells #[kindV0, kindV1] 78)) (.slice (some ⟨w.heap.size, 0, none⟩) 2 2) 0 sz from ⟨[kindV0, kindV1], HO.out, rfl, rfl, fun i n hi => by omega⟩)
  clear hl hi0 z0 z1 z2 HO
  unfold kindV0 kindV1 at HB0 HK0 hp1
  go_enter Tryz.func34, Tryz.ntmps34
  go_wp2_with fail
  generalize w.alloc (.cells #[.func (Fn.func 52) #[] #[], .func (Fn.func 46) #[] #[]] 78) = w1 at *
  go_loopw [3, 12] (fun out i wr => ∃ k : Nat, k ≤ sz.length ∧ i = .int .i64 k ∧ Kinds w.heap.size wr out k sz ∧ Below w.heap.size w wr) (fun _ i _ => sz.length - (intOf i).toNat)
  case atStart => exact ⟨0, by omega, rfl, HK0.out, HB0.out⟩
  case round =>
    obtain ⟨k, hk, rfl, hK, hB⟩ := hrel
    have HK := Lib.hid hK
    have HB := Lib.hid hB
    clear hB HK0
    by_cases hlt : k < sz.length
    · have hlt2 : (k : Int) < (sz.length : Int) := by omega
      have hx := List.getElem?_eq_getElem hlt
      generalize sz[k] = n at hx
      obtain ⟨b, o, vs, rfl, hbl, _, hcell, hr⟩ := (HL.out.on (IntR.lasts _) HB.out).at' hx
      obtain ⟨rfl, _⟩ := hr
      have c0 := hcell 0 _ rfl
      rw [Nat.mul_one, Nat.add_zero] at c0
      obtain ⟨vals, ho, h0, h1, hv⟩ := hK.row
      obtain ⟨Av, cv, rfl⟩ := shape_of_owns ho
      have HO := Lib.hid ho
      have H01 := Lib.hid (And.intro h0 (And.intro h1 hv))
      have HX := Lib.hid hx
      have HC := Lib.hid (Cells.new (wr.alloc (.cells #[.int .i64 n] 3)) [kindV wr.heap.size] 78 (0, 0))
      clear hK hx hcell h0 h1 hv ho
      go_wp2_with (at_builtin; refine wpList_append_at rfl (.tmp 16) (.tmp 18) _ rfl w.heap.size 78 i0 .nilFunc 1 8 Tryz.underlying80 I0.out I1.out I2.out I3.out rfl (by decide) (.slice Av (2 + k) cv) (2 + k) vals rfl ?c1 (some ⟨wr.heap.size + 1, 0, none⟩) 1 1 [kindV wr.heap.size] rfl ?c2 ?c3 ?c4 ?c5 ?c6 ?c7 ?c8)
      case c1 => exact (HO.out.alloc _).alloc _
      case c2 => rfl
      case c3 => have := HC.out; simp at this; exact this
      case c4 => simp [kindV, Value.oneCell']
      case c5 => unfold maxLen; omega
      case c6 => omega
      case c7 => have := HB.out.size; simp; omega
      intro v' w8 hown hgr hat
      have HK8 := Lib.hid (Kinds.push (w := (wr.alloc (.cells #[.int .i64 n] 3)).alloc (.cells #[kindV wr.heap.size] 78)) HX.out HO.out H01.out.1 H01.out.2.1 H01.out.2.2 rfl hown hgr hat)
      have HB8 := Lib.hid (((HB.out.alloc HB.out.size (.cells #[.int .i64 n] 3)).alloc (by have := HB.out.size; simp; omega) (.cells #[kindV wr.heap.size] 78)).grown hgr (by have := HB.out.size; simp; omega) (fun k hk => (HO.out.lt k hk).1))
      clear hown hgr hat
      go_wp2_with fail
      go_roundw
      case rel => exact ⟨k + 1, by omega, by go_num, HK8.out, HB8.out⟩
      case measure => simp [intOf]; omega
    · obtain rfl : k = sz.length := by omega
      obtain ⟨vals, ho, _⟩ := hK.row
      obtain ⟨Av, cv, rfl⟩ := shape_of_owns ho
      clear hK ho
      have HP := Lib.hid (show ∃ v', Ending.returned (.slice Av (2 + sz.length) cv) = .returned v' ∧ Kinds w.heap.size wr v' sz.length sz from ⟨_, rfl, HK.out⟩)
      go_wp2_with fail
      go_ret
      exact ⟨HP.out, HB.out⟩

theorem isB_len {n : Nat} {sz : List Int} {s v : Int} (h : ¬ sz.length = n) : isB n sz s v = false := by unfold isB; rw [decide_eq_false h]; rfl
theorem isB_out {n : Nat} {sz : List Int} {s v : Int} (h : ¬ (0 ≤ s ∧ s < 2 + (n : Int))) : isB n sz s v = false := by unfold isB; rw [decide_eq_false h]; simp
theorem isB_bool {sz : List Int} {v : Int} : isB sz.length sz 0 v = bitB v := by
  unfold isB
  rw [decide_eq_true rfl, decide_eq_true (by omega)]; rfl
theorem isB_int {sz : List Int} {v : Int} : isB sz.length sz 1 v = mayB v := by
  unfold isB
  rw [decide_eq_true rfl, decide_eq_true (by omega)]; rfl
theorem isB_own {sz : List Int} {i : Nat} {n v : Int} (h : sz[i]? = some n) : isB sz.length sz ((2 + i : Nat) : Int) v = ownB n v := by
  have hl := (List.getElem?_eq_some_iff.1 h).1
  unfold isB valB
  rw [decide_eq_true rfl, decide_eq_true (by omega), if_neg (by omega), if_neg (by omega), show (((2 + i : Nat) : Int) - 2).toNat = i by omega, List.getD_eq_getElem?_getD, h]
  rfl
theorem box2_cell (w : World) (o : Obj) (cs : Array Value) (t : TypeId) (j : Nat) : ((w.alloc o).alloc (.cells cs t)).cell? ⟨w.heap.size + 1, j, none⟩ = cs[j]? := by
  refine cell_of_cells (fr := (0, 0)) (e := t) ?_ j
  rw [show w.heap.size + 1 = (w.alloc o).heap.size by simp]
  exact Array.getElem?_push_size
set_option maxRecDepth 100000 in
set_option maxHeartbeats 3200000 in
theorem is_any {w : World} {A1 A2 A3 B1 B2 : Option Addr} {n1 c1 n2 c2 n3 c3 d1 m d2 : Nat} {sz : List Int} (hl : Lies 1 (IntR .i64) w B1 sz) (hb : (sz.length : Int) ≤ 1000000) (hn : (n1 : Int) ≤ 140737488351232) (s v : Int) (hv : I64 v) :
    Calls Tryz.prog 14 #[.agg #[.slice A1 n1 c1, .slice A2 n2 c2, .slice A3 n3 c3], .agg #[.slice B1 sz.length d1, .slice B2 m d2], .int .i64 s, .int .i64 v] w fun e w' => e = .returned (.bool (isB n1 sz s v)) ∧ Below w.heap.size w w' := by
  have HB2 := Lib.hid (((Below.refl w.heap.size w).alloc (Nat.le_refl _) (.cells #[.slice A1 n1 c1, .slice A2 n2 c2, .slice A3 n3 c3] 26)).alloc (by simp) (.cells #[.slice B1 sz.length d1, .slice B2 m d2] 30))
  have HL2 := Lib.hid (hl.on (IntR.lasts _) HB2.out)
  obtain ⟨g0, g1, g2⟩ := sig_cells w (.slice A1 n1 c1) (.slice A2 n2 c2) (.slice A3 n3 c3) 26
  have e0 : ((w.alloc (.cells #[.slice A1 n1 c1, .slice A2 n2 c2, .slice A3 n3 c3] 26)).alloc (.cells #[.slice B1 sz.length d1, .slice B2 m d2] 30)).cell? ⟨w.heap.size, 0, none⟩ = some (.slice A1 n1 c1) :=
    ((bcell ((Below.refl _ _).alloc (Nat.le_refl _) _)).1 w.heap.size 0 (by simp)).trans g0
  have e1 : ((w.alloc (.cells #[.slice A1 n1 c1, .slice A2 n2 c2, .slice A3 n3 c3] 26)).alloc (.cells #[.slice B1 sz.length d1, .slice B2 m d2] 30)).cell? ⟨w.heap.size + 1, 0, none⟩ = some (.slice B1 sz.length d1) :=
    box2_cell w _ _ _ 0
  have hz : w.heap.size + 1 < ((w.alloc (.cells #[.slice A1 n1 c1, .slice A2 n2 c2, .slice A3 n3 c3] 26)).alloc (.cells #[.slice B1 sz.length d1, .slice B2 m d2] 30)).heap.size := by simp
  clear g0 g1 g2 hl
  go_enter Tryz.func14, Tryz.ntmps14
  go_wp2_with fail
  generalize (w.alloc (.cells #[.slice A1 n1 c1, .slice A2 n2 c2, .slice A3 n3 c3] 26)).alloc (.cells #[.slice B1 sz.length d1, .slice B2 m d2] 30) = w2 at *
  refine (kinds_any HL2.out hb e1 hz).mono ?_
  rintro e w3 ⟨⟨v', rfl, hK⟩, hb3⟩
  have HB3 := Lib.hid (HB2.out.trans (hb3.mono HB2.out.size))
  have p0 := ((bcell hb3).1 w.heap.size 0 (by omega)).trans e0
  have p1 := ((bcell hb3).1 (w.heap.size + 1) 0 (by omega)).trans e1
  obtain ⟨vals, ho, h0, h1, hvs⟩ := hK.row
  obtain ⟨gb, cap, rfl, _, hcells⟩ := owned_open ho (by omega)
  have HV := Lib.hid hvs
  have k0 := hcells 0 _ h0
  have k1 := hcells 1 _ h1
  unfold kindV0 at k0
  unfold kindV1 at k1
  have HC := Lib.hid hcells
  clear hb3 e0 e1 hz hK ho h0 h1 hvs hcells HB2 HL2
  by_cases hq : sz.length = n1
  · subst hq
    have hq' : ((sz.length : Int) == (sz.length : Int)) = true := by simp
    by_cases hs0 : 0 ≤ s
    · have hs0' := decide_eq_true hs0
      by_cases hs1 : s < 2 + (sz.length : Int)
      · have hs1' := decide_eq_true hs1
        by_cases ha : s = 0
        · subst ha
          have HR := Lib.hid (isB_bool (sz := sz) (v := v))
          go_wp2_with fail
          refine (kind1_any v hv w3).mono ?_
          rintro e w4 ⟨rfl, rfl⟩
          go_wp2_with fail
          go_ret
          exact ⟨ret_bool HR.out.symm, HB3.out⟩
        · by_cases ha1 : s = 1
          · subst ha1
            have HR := Lib.hid (isB_int (sz := sz) (v := v))
            go_wp2_with fail
            refine (may_any v hv w3).mono ?_
            rintro e w4 ⟨rfl, rfl⟩
            go_wp2_with fail
            go_ret
            exact ⟨ret_bool HR.out.symm, HB3.out⟩
          · obtain ⟨i, rfl⟩ : ∃ i : Nat, s = ((2 + i : Nat) : Int) := ⟨s.toNat - 2, by omega⟩
            have hil : i < sz.length := by omega
            have hx := List.getElem?_eq_getElem hil
            generalize sz[i] = n at hx
            have HR := Lib.hid (isB_own (v := v) hx)
            obtain ⟨b, e1, e2, _⟩ := HV.out i n hil hx
            have k2 := HC.out _ _ e1
            have hb0 : w3.cell? ⟨b, 0, none⟩ = some (.int .i64 n) := by rw [cell_of_cells e2]; rfl
            unfold kindV at k2
            have HB0 := Lib.hid hb0
            clear e1 e2 hx hb0
            go_wp2_with fail
            refine (kind2_any v n b w3 HB0.out).mono ?_
            rintro e w4 ⟨rfl, rfl⟩
            go_wp2_with fail
            go_ret
            exact ⟨ret_bool HR.out.symm, HB3.out⟩
      · have hs1' := decide_eq_false hs1
        have HR := Lib.hid (isB_out (n := sz.length) (sz := sz) (s := s) (v := v) (by omega))
        go_wp2_with fail
        go_ret
        exact ⟨ret_bool HR.out.symm, HB3.out⟩
    · have hs0' := decide_eq_false hs0
      have HR := Lib.hid (isB_out (n := sz.length) (sz := sz) (s := s) (v := v) (by omega))
      go_wp2_with fail
      go_ret
      exact ⟨ret_bool HR.out.symm, HB3.out⟩
  · have HR := Lib.hid (isB_len (sz := sz) (s := s) (v := v) hq)
    have hq' : ((sz.length : Int) == (n1 : Int)) = false := beq_eq_false_iff_ne.2 (by omega)
    go_wp2_with fail
    go_ret
    exact ⟨ret_bool HR.out.symm, HB3.out⟩
end Go.Proofs.YtfcmpfaonpnbaaaGreatDoor.Vl
