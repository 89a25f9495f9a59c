import Derived.Test.YtfcmpfaonpnbaaaGreatDoorMb
import Derived.Test.YtfcmpfaonpnbaaaGreatDoorMc
import Derived.Test.YtfcmpfaonpnbaaaGreatDoorMa
import Derived.Maps.OwnSet
import Derived.Maps.Views
import Derived.Maps.Keyed
import Derived.MapViews
import Derived.DeepKeys4
import Derived.DeepKeys5
import Derived.Test.YtfcmpfaonpnbaaaGreatDoorMf
/- merged by wip/merge.py from: SexpStands Maps Keys SexpStand2 SexpMay SigMacP -/
/- Whether an expression may be, but for its depth: the program's walk. -/
namespace Go.Proofs.YtfcmpfaonpnbaaaGreatDoor.Dt
open Go.RowKit

/-- an expression's three cells at the head of a block -/
structure PtrAt (w : World) (b : Nat) (A : Option Addr) (c : Nat) (x : Sexp) : Prop where
  c0 : w.cell? ⟨b, 0, none⟩ = some (.int .i8 x.kind)
  c1 : w.cell? ⟨b, 1, none⟩ = some (.string x.text)
  c2 : w.cell? ⟨b, 2, none⟩ = some (.slice A x.l.length c)
  lt : b < w.heap.size
  rep : SexpR w [.int .i8 x.kind, .string x.text, .slice A x.l.length c] x
theorem PtrAt.on {w w' : World} {b : Nat} {A : Option Addr} {c : Nat} {x : Sexp} (h : PtrAt w b A c x) (hb : Below w.heap.size w w') : PtrAt w' b A c x :=
  ⟨((bcell hb).1 b 0 h.lt).trans h.c0, ((bcell hb).1 b 1 h.lt).trans h.c1, ((bcell hb).1 b 2 h.lt).trans h.c2, Nat.lt_of_lt_of_le h.lt hb.size, SexpR.lasts _ _ _ _ hb h.rep⟩
theorem PtrAt.text {w : World} {b : Nat} {A : Option Addr} {c : Nat} {x : Sexp} (h : PtrAt w b A c x) : (x.text.size : Int) ≤ 140737488351232 := by
  obtain ⟨_, _, _, _, _, _, h1, _⟩ := h.rep.open'; exact h1
theorem PtrAt.len {w : World} {b : Nat} {A : Option Addr} {c : Nat} {x : Sexp} (h : PtrAt w b A c x) : x.l.length * 48 ≤ 140737488351232 := by
  obtain ⟨_, _, _, _, _, _, _, h1, _⟩ := h.rep.open'; exact h1

set_option maxHeartbeats 1600000 in
theorem symbol_any {w : World} {b : Nat} {A : Option Addr} {c : Nat} {x : Sexp} (h : PtrAt w b A c x) :
    Calls Tryz.prog 97 #[.pointer (some ⟨b, 0, none⟩)] w fun e w' => e = .returned (.bool (x.l.isEmpty && Lx.mayB (Lx.bs x.text))) ∧ w = w' := by
  have HM := Lib.hid (Lx.may_any x.text w (by have := h.text; omega))
  have c1 := h.c1
  have c2 := h.c2
  have hl := h.len
  generalize Lx.mayB (Lx.bs x.text) = m at *
  generalize x.text = t at *
  generalize x.l = l at *
  clear h
  cases l with
  | nil =>
    simp only [List.length_nil] at c2
    go_enter Tryz.func97, Tryz.ntmps97
    go_wp2_with fail
    refine (HM.out).mono ?_
    rintro e w' ⟨rfl, rfl⟩
    go_wp2_with fail
    go_ret
    exact ⟨rfl, rfl⟩
  | cons y r =>
    have hn : (((y :: r).length : Int) == 0) = false := by rw [beq_eq_false_iff_ne, List.length_cons]; omega
    generalize (y :: r).length = n at *
    go_enter Tryz.func97, Tryz.ntmps97
    go_wp2_with fail
    go_ret
    exact ⟨rfl, rfl⟩

theorem numB_iff (l : List UInt8) : numB l = (decide (parseE l ≠ 20) && decide (l.length ≤ 100)) := by
  unfold numB parseE
  cases isNum l <;> simp
  split <;> simp
set_option maxHeartbeats 3200000 in
theorem numeral_any {w : World} {b : Nat} {A : Option Addr} {c : Nat} {x : Sexp} (h : PtrAt w b A c x) :
    Calls Tryz.prog 98 #[.pointer (some ⟨b, 0, none⟩)] w fun e w' => e = .returned (.bool (x.l.isEmpty && numB (Lx.bs x.text))) ∧ Below w.heap.size w w' := by
  have HM := Lib.hid (parse_any x.text (by have := h.text; omega) w)
  have HP := Lib.hid (fun W (hW : Below w.heap.size w W) => show W.cell? ⟨b, 1, none⟩ = some (.string x.text) ∧ W.cell? ⟨b, 2, none⟩ = some (.slice A x.l.length c) from ⟨(h.on hW).c1, (h.on hW).c2⟩)
  have HN := Lib.hid (show numB (Lx.bs x.text) = (decide (parseE x.text.data.toList ≠ 20) && decide (x.text.size ≤ 100)) by rw [← Lx.bs_length x.text]; exact numB_iff _)
  have c1 := h.c1
  have hl := h.len
  have ht := h.text
  generalize parseE x.text.data.toList = pe at *
  generalize parseV x.text.data.toList = pv at *
  generalize numB (Lx.bs x.text) = nb at *
  generalize x.text = t at *
  generalize x.l = l at *
  clear h
  go_enter Tryz.func98, Tryz.ntmps98
  go_wp2_with fail
  refine HM.out.mono ?_
  rintro e w1 ⟨rfl, hb⟩
  have HB1 := Lib.hid hb
  obtain ⟨d1, d2⟩ := HP.out w1 hb
  clear hb
  cases l with
  | nil =>
    simp only [List.length_nil] at d2
    by_cases h1 : pe = 20
    · subst h1
      go_wp2_with fail
      go_ret
      exact ⟨ret_bool (by rw [HN.out]; simp), HB1.out⟩
    · have h1' : (pe == 20) = false := beq_eq_false_iff_ne.2 h1
      have h1'' : (pe != 20) = true := by rw [bne, h1']; rfl
      by_cases h2 : t.size ≤ 100
      · have h2' : (t.size : Int) ≤ 100 := by omega
        go_wp2_with fail
        go_ret
        exact ⟨ret_bool (by rw [HN.out]; simp [h1, h2]), HB1.out⟩
      · have h2' : decide ((t.size : Int) ≤ 100) = false := decide_eq_false (by omega)
        go_wp2_with fail
        go_ret
        exact ⟨ret_bool (by rw [HN.out]; simp [h2]), HB1.out⟩
  | cons y r =>
    have hn : (((y :: r).length : Int) == 0) = false := by rw [beq_eq_false_iff_ne, List.length_cons]; omega
    generalize (y :: r).length = n at *
    go_wp2_with fail
    go_ret
    exact ⟨rfl, HB1.out⟩

/-- what an index tells: whether there is one -/
def IdxPost (b : Bool) (e : Ending) : Prop := ∃ r : Int, e = .returned (.int .i64 r) ∧ decide (0 ≤ r) = b
def byteV (c : UInt8) : Value := .int .u8 c.toNat
def noSign (c : UInt8) : Bool := !Lx.signI c.toNat
set_option maxHeartbeats 800000 in
theorem keyword1_any (c : UInt8) (w : World) :
    Calls Tryz.prog 110 #[byteV c] w fun e w' => e = .returned (.bool (noSign c)) ∧ w = w' := by
  have HS := Lib.hid (Lx.sign_any (c.toNat : Int) w (by omega) (by have := c.toNat_lt; omega))
  unfold byteV noSign
  generalize Lx.signI (c.toNat : Int) = b at *
  go_enter Tryz.func110, Tryz.ntmps110
  go_wp2_with fail
  refine (HS.out).mono ?_
  rintro e w' ⟨rfl, rfl⟩
  go_wp2_with fail
  go_ret
  exact ⟨rfl, rfl⟩
set_option maxHeartbeats 1600000 in
theorem idx_bytes (xs : List UInt8) (w : World) (A : Option Addr) (c : Nat) (hc : Cells w A (xs.map byteV)) (hl : (xs.length : Int) ≤ 9223372036854775807) :
    Calls Tryz.prog 116 #[.slice A xs.length c, .func (Fn.func 110) #[] #[]] w fun e w' => IdxPost (xs.any noSign) e ∧ w = w' := by
  go_enter Tryz.func116, Tryz.ntmps116
  go_wp2_with fail
  go_loop [8] (fun v => ∃ k : Nat, k ≤ xs.length ∧ v = .int .i64 k ∧ (xs.take k).any noSign = false) (fun v => xs.length - (intOf v).toNat)
  case atStart => exact ⟨0, Nat.zero_le _, rfl, rfl⟩
  case round =>
    obtain ⟨k, hk, rfl, hn⟩ := hrel
    have HN := Lib.hid hn
    clear hn
    by_cases hlt : k < xs.length
    · have hlt2 : (k : Int) < (xs.length : Int) := by omega
      have hx := List.getElem?_eq_getElem hlt
      generalize xs[k] = x at hx
      rcases hc with h0 | ⟨b, o, rfl, hbl, hcell⟩
      · simp at h0; rw [h0] at hlt; simp at hlt
      · have c0 := hcell k (byteV x) (by simp [hx])
        have HC := Lib.hid (keyword1_any x w)
        have HX := Lib.hid hx
        clear hcell hx
        cases hq : noSign x with
        | true =>
          have HQ := Lib.hid (show xs.any noSign = true from List.any_eq_true.2 ⟨x, List.mem_of_getElem? HX.out, hq⟩)
          rw [hq] at HC
          clear hq
          go_wp2_with fail
          refine HC.out.mono ?_
          rintro e w' ⟨rfl, rfl⟩
          go_wp2_with fail
          go_ret
          exact ⟨⟨k, rfl, by rw [HQ.out]; exact decide_eq_true (by omega)⟩, rfl⟩
        | false =>
          have HQ := Lib.hid (show (xs.take (k + 1)).any noSign = false by rw [List.take_add_one, HX.out, List.any_append, HN.out]; simpa using hq)
          rw [hq] at HC
          clear hq
          go_wp2_with fail
          refine HC.out.mono ?_
          rintro e w' ⟨rfl, rfl⟩
          go_wp2_with fail
          go_round
          case rel => exact ⟨k + 1, by omega, by go_num, HQ.out⟩
          case measure => simp [intOf]; omega
    · obtain rfl : k = xs.length := by omega
      have HQ := Lib.hid (show xs.any noSign = false by have h := HN.out; rwa [List.take_length] at h)
      go_wp2_with fail
      go_ret
      exact ⟨⟨-1, rfl, by rw [HQ.out]; exact decide_eq_false (by omega)⟩, rfl⟩
set_option maxHeartbeats 800000 in
theorem contains_bytes (xs : List UInt8) (w : World) (A : Option Addr) (c : Nat) (hc : Cells w A (xs.map byteV)) (hl : (xs.length : Int) ≤ 9223372036854775807) :
    Calls Tryz.prog 109 #[.slice A xs.length c, .func (Fn.func 110) #[] #[]] w fun e w' => e = .returned (.bool (xs.any noSign)) ∧ w = w' := by
  have HI := Lib.hid (idx_bytes xs w A c hc hl)
  generalize xs.any noSign = b at *
  clear hc
  go_enter Tryz.func109, Tryz.ntmps109
  go_wp2_with fail
  refine HI.out.mono ?_
  rintro e w' ⟨⟨r, rfl, hr⟩, rfl⟩
  have HR := Lib.hid hr
  clear hr
  go_wp2_with fail
  go_ret
  exact ⟨ret_bool HR.out, rfl⟩
end Go.Proofs.YtfcmpfaonpnbaaaGreatDoor.Dt
/- Maps of the call's own, told by what stands at which key. No condition. -/
namespace Go.Proofs.YtfcmpfaonpnbaaaGreatDoor
open Go.RowKit Go.Maps

theorem plainElem_bool_inv {P : Program} {e : TypeId} (he : P.underlying e = some .bool) {v : Value} {z : DataW Unit × List MemPlace} (h : plainElem P e v = some z) : ∃ b, v = .bool b ∧ z = (.lit (.bool b), []) := by
  unfold plainElem at h
  rw [he] at h
  split at h
  · rename_i x _; cases h; exact ⟨_, rfl, rfl⟩
  all_goals simp_all
/-- a map to bools: S tells where true stands -/
def BoolMap (P : Program) (k e : TypeId) (w : World) (b n : Nat) (S : Value → Prop) : Prop :=
  ∃ D : DataW Unit, w.ownsMap P k (plainElem P e) b n D ∧ ∀ key kl, keyOf P k key = some kl → ∃ c, D.atKey kl (.lit (.bool false)) = .lit (.bool c) ∧ (c = true ↔ S key)
section
variable {P : Program} {k e t : TypeId} {w : World} {b n : Nat} {S : Value → Prop}
theorem BoolMap.made (w : World) (P : Program) (k e : TypeId) : BoolMap P k e (w.alloc (.map #[] 0)) w.heap.size 0 (fun _ => False) :=
  ⟨.map [], World.ownsMap_made w P k _, fun _ _ _ => ⟨false, rfl, by simp⟩⟩
theorem BoolMap.kept {w' : World} {row : Option Nat} (h : BoolMap P k e w b n S) (hg : w.grownBy w' row) (hne : some b ≠ row) : BoolMap P k e w' b n S := by
  obtain ⟨D, h1, h2⟩ := h
  exact ⟨D, h1.kept hg hne, h2⟩
theorem BoolMap.lt (h : BoolMap P k e w b n S) : b < w.heap.size := by obtain ⟨D, h1, _⟩ := h; exact h1.lt
theorem BoolMap.alloc (h : BoolMap P k e w b n S) (o : Obj) : BoolMap P k e (w.alloc o) b n S := by obtain ⟨D, h1, h2⟩ := h; exact ⟨D, h1.alloc o, h2⟩
theorem BoolMap.keeps {T : Nat → Prop} {w' : World} (h : BoolMap P k e w b n S) (hk : Keeps T w w') (hT : ¬ T b) : BoolMap P k e w' b n S := by
  obtain ⟨D, ⟨es, clock, hb, r⟩, h2⟩ := h
  exact ⟨D, ⟨es, clock, (hk.block b (lt_of_block hb) hT).trans hb, r⟩, h2⟩
theorem BoolMap.below {w' : World} (h : BoolMap P k e w b n S) (hb : Below w.heap.size w w') : BoolMap P k e w' b n S := h.keeps (Keeps.of_below hb (fun _ => False)) id
theorem BoolMap.imp {S' : Value → Prop} (h : BoolMap P k e w b n S) (hS : ∀ x, S x ↔ S' x) : BoolMap P k e w b n S' := by
  obtain ⟨D, h1, h2⟩ := h
  exact ⟨D, h1, fun key kl hk => by obtain ⟨c, a, r⟩ := h2 key kl hk; exact ⟨c, a, r.trans (hS key)⟩⟩
theorem BoolMap.look (h : BoolMap P k e w b n S) (K : Keyed P k) (ht : P.underlying t = some (.map k e)) (he : P.underlying e = some .bool) (hz : ∀ w, (zeroValue e).run P w = .ok (.bool false) w) {key : Value} {kl : Lit} (hkey : keyOf P k key = some kl) :
    ∃ c, (Instr.lookup t (.map (some b)) key false).run P w = .ok (.bool c) w ∧ (c = true ↔ S key) := by
  obtain ⟨D, h1, h2⟩ := h
  obtain ⟨v, ps, hrun, hv⟩ := h1.lookup K ht (hz w) (plainElem_bool he false) hkey
  obtain ⟨c, hc, hS⟩ := h2 key kl hkey
  obtain ⟨c', rfl, hc'⟩ := plainElem_bool_inv he hv
  rw [hc] at hc'
  simp at hc'
  exact ⟨c', hrun, by rw [← hc'.1]; exact hS⟩
theorem BoolMap.store (h : BoolMap P k e w b n S) (K : Keyed P k) (ht : P.underlying t = some (.map k e)) (he : P.underlying e = some .bool) (hn : n < maxLen) {key : Value} {kl : Lit} (hkey : keyOf P k key = some kl) :
    ∃ w', (Instr.mapUpdate t (.map (some b)) key (.bool true)).run P w = .ok () w' ∧ BoolMap P k e w' b (n + 1) (fun x => x = key ∨ S x) ∧ w.grownBy w' (some b) := by
  obtain ⟨D, h1, h2⟩ := h
  obtain ⟨w', hrun, h3, h4⟩ := h1.update K ht hn hkey (plainElem_bool he true)
  refine ⟨w', hrun, ⟨_, h3, fun x xl hx => ?_⟩, h4⟩
  by_cases hq : xl = kl
  · subst hq
    have hxk : x = key := K.inj hx hkey
    exact ⟨true, atKey_put_same h1.isMap (K.key hkey) _ _, by simp [hxk]⟩
  · obtain ⟨c, hc, hS⟩ := h2 x xl hx
    refine ⟨c, (atKey_put_other hq _ _).trans hc, hS.trans ⟨.inr, fun h => h.elim (fun e => ?_) id⟩⟩
    subst e; rw [hx] at hkey; exact absurd (Option.some.inj hkey) hq
end
theorem zero_bool (w : World) : (zeroValue 4).run Tryz.prog w = .ok (.bool false) w := by kernel_rfl
theorem string_key : Keyed Tryz.prog 9 := string_keyed Tryz.underlying9
theorem keyOf_str {s : ByteArray} (hs : (s.size : Int) ≤ 140737488351232) : keyOf Tryz.prog 9 (.string s) = some (.string s.data.toList) := WideMaps.keyOf_string_mk Tryz.underlying9 (by unfold maxLen; omega)
end Go.Proofs.YtfcmpfaonpnbaaaGreatDoor
/- Keys of maps that are structs and arrays. No condition. -/
namespace Go.Proofs.YtfcmpfaonpnbaaaGreatDoor
open Go.RowKit Go.Maps

theorem many_types : ∃ m, Tryz.prog.types.size = m + 2 := ⟨Tryz.prog.types.size - 2, by kernel_rfl⟩
theorem name_wide : Tryz.prog.keyType 96 = true := by kernel_rfl
theorem cName : Tryz.prog.cellsOf 96 = 2 := by kernel_rfl
theorem name_key : Keyed Tryz.prog 96 := Keyed.of_law (deep_law_gate laidOut (of_decide_eq_true (by kernel_rfl)) (of_decide_eq_true (by kernel_rfl)) name_wide (by kernel_rfl))
theorem keyOf_name {s : ByteArray} (hs : (s.size : Int) ≤ 140737488351232) (b : Bool) : ∃ kl, keyOf Tryz.prog 96 (.agg #[.string s, .bool b]) = some kl := by
  obtain ⟨m, hm⟩ := many_types
  have hs2 : s.size ≤ maxLen := by unfold maxLen; omega
  have c1 : Tryz.prog.cellsOf 9 = 1 := by kernel_rfl
  have c2 : Tryz.prog.cellsOf 4 = 1 := by kernel_rfl
  unfold keyOf
  simp only [Tryz.underlying96]
  rw [if_pos (by simp [name_wide, Value.formed, Tryz.underlying96, cName]), hm]
  simp [Program.keyLits, Tryz.underlying96, Tryz.underlying9, Tryz.underlying4, cName, c1, c2, Value.cells, hs2]
theorem a3_wide : Tryz.prog.keyType 58 = true := by kernel_rfl
theorem cArr3 : Tryz.prog.cellsOf 58 = 3 := by kernel_rfl
theorem a3_key : Keyed Tryz.prog 58 := Keyed.of_law (deep_law_gate laidOut (of_decide_eq_true (by kernel_rfl)) (of_decide_eq_true (by kernel_rfl)) a3_wide (by kernel_rfl))
theorem wf_i64 {n : Int} (h : I64 n) : (Lit.int .i64 n).wf = true := WalkArith.wf_i64 h
theorem keyOf_a3 {a b c : Int} (ha : I64 a) (hb : I64 b) (hc : I64 c) : ∃ kl, keyOf Tryz.prog 58 (.agg #[.int .i64 a, .int .i64 b, .int .i64 c]) = some kl := by
  obtain ⟨m, hm⟩ := many_types
  have c1 : Tryz.prog.cellsOf 3 = 1 := by kernel_rfl
  have w1 := wf_i64 ha
  have w2 := wf_i64 hb
  have w3 := wf_i64 hc
  have r3 : List.range 3 = [0, 1, 2] := rfl
  unfold keyOf
  simp only [Tryz.underlying58]
  rw [if_pos (by simp [a3_wide, Value.formed, Tryz.underlying58, cArr3]), hm]
  simp [Program.keyLits, Tryz.underlying58, Tryz.underlying3, cArr3, c1, Value.cells, w1, w2, w3, r3]
end Go.Proofs.YtfcmpfaonpnbaaaGreatDoor
/- Whether an expression may be, but for its depth: keywords, lists; May. -/
namespace Go.Proofs.YtfcmpfaonpnbaaaGreatDoor.Dt
open Go.RowKit

theorem bytes_conv (W : World) (s : ByteArray) : ∃ cap W1, (convert 9 93 (.string s)).run Tryz.prog W = .ok (.slice (some ⟨W.heap.size, 0, none⟩) s.size cap) W1 ∧ Below W.heap.size W W1 ∧ Cells W1 (some ⟨W.heap.size, 0, none⟩) ((Lx.bs s).map byteV) := by
  refine ⟨_, _, run_bytes_of_string (P := Tryz.prog) W 9 93 5 s Tryz.underlying9 Tryz.underlying93 Tryz.underlying5, ((Below.refl _ _).drew).alloc (Nat.le_refl _) _, .inr ⟨W.heap.size, 0, rfl, by simp, fun j u hu => ?_⟩⟩
  have hj : j < s.data.size := by have := (List.getElem?_eq_some_iff.1 hu).1; rw [List.length_map, Lx.bs_length] at this; exact this
  have h1 := World.cell?_alloc_mark W.drew (bytesRow s (grownCap W s.size 0 5)) 5 ((bytesRow s (grownCap W s.size 0 5)).size, (bytesRow s (grownCap W s.size 0 5)).size + 1) j
  rw [bytesRow_at _ _ _ hj] at h1
  rw [Nat.zero_add]
  refine h1.trans ?_
  rw [← hu, List.getElem?_map, Lx.bs_at (by exact hj)]
  rfl
theorem keyB_iff (s : ByteArray) : keyB (Lx.bs s) = (!(Lx.bs s).any noSign && !(Lx.bs s).isEmpty && decide (s.size ≤ 100)) := by
  unfold keyB
  rw [Lx.bs_length]
  congr 2
  rw [Bool.eq_iff_iff]
  simp [noSign]
set_option maxRecDepth 100000 in
set_option maxHeartbeats 3200000 in
theorem keyword_any {w : World} {b : Nat} {A : Option Addr} {c : Nat} {x : Sexp} (h : PtrAt w b A c x) :
    Calls Tryz.prog 99 #[.pointer (some ⟨b, 0, none⟩)] w fun e w' => e = .returned (.bool (x.l.isEmpty && keyB (Lx.bs x.text))) ∧ Below w.heap.size w w' := by
  obtain ⟨cap, w1, hconv, hb1, hcs⟩ := bytes_conv w x.text
  have HC := Lib.hid (contains_bytes (Lx.bs x.text) w1 _ cap hcs (by rw [Lx.bs_length]; have := h.text; omega))
  have HB1 := Lib.hid hb1
  have HN := Lib.hid (keyB_iff x.text)
  have d1 := (h.on hb1).c1
  have d2 := (h.on hb1).c2
  have HE := Lib.hid (show (Lx.bs x.text).isEmpty = x.text.toList.isEmpty by rw [Lx.bs_toList])
  have HL := Lib.hid (Lx.bs_length x.text)
  have c1 := h.c1
  have hl := h.len
  have ht := h.text
  rw [Lx.bs_length] at HC
  generalize keyB (Lx.bs x.text) = kb at *
  generalize (Lx.bs x.text).any noSign = nb at *
  generalize x.text = t at *
  generalize x.l = l at *
  clear h hb1 hcs
  cases l with
  | nil =>
    simp only [List.length_nil] at d2
    cases nb with
    | true =>
      go_enter Tryz.func99, Tryz.ntmps99
      go_wp2_with fail
      refine (HC.out).mono ?_
      rintro e w' ⟨rfl, rfl⟩
      go_wp2_with fail
      go_ret
      exact ⟨ret_bool (by rw [HN.out]; simp), HB1.out⟩
    | false =>
      cases he : t.toList.isEmpty with
      | true =>
        have he2 : t.toList = [] := List.isEmpty_iff.1 he
        have HE2 := Lib.hid (show (Lx.bs t).isEmpty = true by rw [HE.out, he])
        go_enter Tryz.func99, Tryz.ntmps99
        go_wp2_with fail
        refine (HC.out).mono ?_
        rintro e w' ⟨rfl, rfl⟩
        go_wp2_with fail
        go_ret
        exact ⟨ret_bool (by rw [HN.out, HE2.out]; simp), HB1.out⟩
      | false =>
        have HE2 := Lib.hid (show (Lx.bs t).isEmpty = false by rw [HE.out, he])
        have he3 : (!t.toList.isEmpty) = true := by rw [he]; rfl
        by_cases h2 : t.size ≤ 100
        · have h2' : (t.size : Int) ≤ 100 := by omega
          go_enter Tryz.func99, Tryz.ntmps99
          go_wp2_with fail
          refine (HC.out).mono ?_
          rintro e w' ⟨rfl, rfl⟩
          go_wp2_with fail
          go_ret
          exact ⟨ret_bool (by rw [HN.out, HE2.out]; simp [h2]), HB1.out⟩
        · have h2' : decide ((t.size : Int) ≤ 100) = false := decide_eq_false (by omega)
          go_enter Tryz.func99, Tryz.ntmps99
          go_wp2_with fail
          refine (HC.out).mono ?_
          rintro e w' ⟨rfl, rfl⟩
          go_wp2_with fail
          go_ret
          exact ⟨ret_bool (by rw [HN.out, HE2.out]; simp [h2]), HB1.out⟩
  | cons y r =>
    have hn : (((y :: r).length : Int) == 0) = false := by rw [beq_eq_false_iff_ne, List.length_cons]; omega
    have HI := Lib.hid (show (y :: r).isEmpty = false from rfl)
    generalize (y :: r).length = n at *
    go_enter Tryz.func99, Tryz.ntmps99
    go_wp2_with fail
    refine (HC.out).mono ?_
    rintro e w' ⟨rfl, rfl⟩
    go_wp2_with fail
    go_ret
    exact ⟨ret_bool (by rw [HI.out]; rfl), HB1.out⟩

/-- what is told of an expression behind a pointer -/
def StandsAt (y : Sexp) : Prop := ∀ (W : World) (b : Nat) (A : Option Addr) (c : Nat), PtrAt W b A c y → Calls Tryz.prog 87 #[.pointer (some ⟨b, 0, none⟩)] W fun e w' => e = .returned (.bool y.stands) ∧ Below W.heap.size W w'
theorem ptr_box {w : World} {A : Option Addr} {c : Nat} {x : Sexp} (h : SexpR w [.int .i8 x.kind, .string x.text, .slice A x.l.length c] x) :
    PtrAt (w.alloc (.cells #[.int .i8 x.kind, .string x.text, .slice A x.l.length c] 51)) w.heap.size A c x := by
  obtain ⟨q0, q1, q2, z⟩ := box_cells w (.int .i8 x.kind) (.string x.text) (.slice A x.l.length c) 51
  exact ⟨q0, q1, q2, by omega, SexpR.lasts _ _ _ _ ((Below.refl _ _).alloc (Nat.le_refl _) _) h⟩
set_option maxHeartbeats 800000 in
theorem list1_any {y : Sexp} (hs : StandsAt y) {w : World} {A : Option Addr} {c : Nat} (h : SexpR w [.int .i8 y.kind, .string y.text, .slice A y.l.length c] y) :
    Calls Tryz.prog 112 #[.agg #[.int .i8 y.kind, .string y.text, .slice A y.l.length c]] w fun e w' => e = .returned (.bool (!y.stands)) ∧ Below w.heap.size w w' := by
  have HP := Lib.hid (hs _ _ A c (ptr_box h))
  have HB := Lib.hid ((Below.refl w.heap.size w).alloc (Nat.le_refl _) (.cells #[.int .i8 y.kind, .string y.text, .slice A y.l.length c] 51))
  generalize y.stands = b at *
  clear hs h
  go_enter Tryz.func112, Tryz.ntmps112
  go_wp2_with fail
  refine HP.out.mono ?_
  rintro e w1 ⟨rfl, hb⟩
  have HB1 := Lib.hid (HB.out.trans (hb.mono HB.out.size))
  clear hb
  go_wp2_with fail
  go_ret
  exact ⟨rfl, HB1.out⟩
set_option maxRecDepth 100000 in
set_option maxHeartbeats 3200000 in
theorem idx_sexp (l : List Sexp) (hs : ∀ y ∈ l, StandsAt y) (w : World) (A : Option Addr) (c : Nat) (hl : Lies 3 SexpR w A l) (hlen : (l.length : Int) ≤ 140737488351232) :
    Calls Tryz.prog 117 #[.slice A l.length c, .func (Fn.func 112) #[] #[]] w fun e w' => IdxPost (!Sexp.standsL l) e ∧ Below w.heap.size w w' := by
  have HS := Lib.hid hs
  have HL := Lib.hid hl
  have HA := Lib.hid (Sexp.standsL_all l)
  clear hs hl
  go_enter Tryz.func117, Tryz.ntmps117
  go_wp2_with fail
  go_loopw [8] (fun v wr => ∃ k : Nat, k ≤ l.length ∧ v = .int .i64 k ∧ (l.take k).all Sexp.stands = true ∧ Below w.heap.size w wr) (fun v _ => l.length - (intOf v).toNat)
  case atStart => exact ⟨0, Nat.zero_le _, rfl, rfl, Below.refl _ _⟩
  case round =>
    obtain ⟨k, hk, rfl, hn, hb⟩ := hrel
    have HN := Lib.hid hn
    have HB := Lib.hid hb
    clear hn
    by_cases hlt : k < l.length
    · have hlt2 : (k : Int) < (l.length : Int) := by omega
      have hy := List.getElem?_eq_getElem hlt
      have hym := List.getElem_mem hlt
      generalize l[k] = y at hy hym
      obtain ⟨b, o, A', c', rfl, hbl, e0, e1, e2, hr⟩ := sexp_cells (HL.out.on SexpR.lasts hb) hy
      have HC := Lib.hid (list1_any (HS.out y hym) hr)
      have HY := Lib.hid hy
      have HM := Lib.hid hym
      clear hb hr hy hym
      cases hq : y.stands with
      | true =>
        have HQ := Lib.hid (show (l.take (k + 1)).all Sexp.stands = true by rw [List.take_add_one, HY.out, List.all_append, HN.out]; simpa using hq)
        rw [hq] at HC
        clear hq
        go_wp2_with fail
        refine HC.out.mono ?_
        rintro e w2 ⟨rfl, hb2⟩
        have HB2 := Lib.hid (HB.out.trans (hb2.mono HB.out.size))
        clear hb2
        go_wp2_with fail
        go_roundw
        case rel => exact ⟨k + 1, by omega, by go_num, HQ.out, HB2.out⟩
        case measure => simp [intOf]; omega
      | false =>
        have HQ := Lib.hid (show Sexp.standsL l = false by rw [HA.out, List.all_eq_false]; exact ⟨y, HM.out, by rw [hq]; simp⟩)
        rw [hq] at HC
        clear hq
        go_wp2_with fail
        refine HC.out.mono ?_
        rintro e w2 ⟨rfl, hb2⟩
        have HB2 := Lib.hid (HB.out.trans (hb2.mono HB.out.size))
        clear hb2
        go_wp2_with fail
        go_ret
        exact ⟨⟨k, rfl, by rw [HQ.out]; exact decide_eq_true (by omega)⟩, HB2.out⟩
    · obtain rfl : k = l.length := by omega
      have HQ := Lib.hid (show Sexp.standsL l = true by have h := HN.out; rw [List.take_length] at h; rw [HA.out]; exact h)
      clear hb
      go_wp2_with fail
      go_ret
      exact ⟨⟨-1, rfl, by rw [HQ.out]; exact decide_eq_false (by omega)⟩, HB.out⟩
set_option maxHeartbeats 800000 in
theorem contains_sexp_of {w : World} {A : Option Addr} {n c : Nat} {q : Bool} {fv : Value} (h : Calls Tryz.prog 117 #[.slice A n c, fv] w fun e w' => IdxPost q e ∧ Below w.heap.size w w') :
    Calls Tryz.prog 111 #[.slice A n c, fv] w fun e w' => e = .returned (.bool q) ∧ Below w.heap.size w w' := by
  have HI := Lib.hid h
  clear h
  go_enter Tryz.func111, Tryz.ntmps111
  go_wp2_with fail
  refine HI.out.mono ?_
  rintro e w1 ⟨⟨r, rfl, hr⟩, hb⟩
  have HR := Lib.hid hr
  have HB := Lib.hid hb
  clear hr hb
  go_wp2_with fail
  go_ret
  exact ⟨ret_bool HR.out, HB.out⟩
set_option maxHeartbeats 1600000 in
theorem list_any {w : World} {b : Nat} {A : Option Addr} {c : Nat} {x : Sexp} (h : PtrAt w b A c x) (hs : ∀ y ∈ x.l, StandsAt y) :
    Calls Tryz.prog 100 #[.pointer (some ⟨b, 0, none⟩)] w fun e w' => e = .returned (.bool ((Lx.bs x.text).isEmpty && Sexp.standsL x.l)) ∧ Below w.heap.size w w' := by
  obtain ⟨A0, c0, e0, hl, hc, hcm, htx, hlb, _⟩ := h.rep.open'
  simp only [List.cons.injEq, Value.slice.injEq, and_true, true_and] at e0
  obtain ⟨rfl, rfl⟩ := e0
  have HI := Lib.hid (idx_sexp x.l hs w A c hl (by omega))
  have c1 := h.c1
  have c2 := h.c2
  have HE := Lib.hid (show (Lx.bs x.text).isEmpty = x.text.toList.isEmpty by rw [Lx.bs_toList])
  generalize Sexp.standsL x.l = sl at *
  generalize x.text = t at *
  generalize x.l = l at *
  clear h hs hl
  cases he : t.toList.isEmpty with
  | true =>
    have he2 : t.toList = [] := List.isEmpty_iff.1 he
    replace HE := Lib.hid (show (Lx.bs t).isEmpty = true by rw [HE.out, he])
    go_enter Tryz.func100, Tryz.ntmps100
    go_wp2_with fail
    refine (Calls.mono (contains_sexp_of HI.out) ?_)
    rintro e w1 ⟨rfl, hb⟩
    have HB := Lib.hid hb
    clear hb
    go_wp2_with fail
    go_ret
    exact ⟨ret_bool (by rw [HE.out]; cases sl <;> rfl), HB.out⟩
  | false =>
    replace HE := Lib.hid (show (Lx.bs t).isEmpty = false by rw [HE.out, he])
    go_enter Tryz.func100, Tryz.ntmps100
    go_wp2_with fail
    go_ret
    exact ⟨ret_bool (by rw [HE.out]; rfl), Below.refl _ _⟩
end Go.Proofs.YtfcmpfaonpnbaaaGreatDoor.Dt
/- Whether an expression may be: the program's May. -/
namespace Go.Proofs.YtfcmpfaonpnbaaaGreatDoor.Dt
open Go.RowKit

set_option maxRecDepth 100000 in
set_option maxHeartbeats 3200000 in
theorem stands_step (x : Sexp) (hs : ∀ y ∈ x.l, StandsAt y) : StandsAt x := by
  intro w b A c h
  have c0 := h.c0
  have H0 := Lib.hid (symbol_any h)
  have H1 := Lib.hid (numeral_any h)
  have H2 := Lib.hid (keyword_any h)
  have H3 := Lib.hid (list_any h hs)
  have HE := Lib.hid (Sexp.stands_eq x)
  generalize (x.l.isEmpty && Lx.mayB (Lx.bs x.text)) = b0 at *
  generalize (x.l.isEmpty && numB (Lx.bs x.text)) = b1 at *
  generalize (x.l.isEmpty && keyB (Lx.bs x.text)) = b2 at *
  generalize ((Lx.bs x.text).isEmpty && Sexp.standsL x.l) = b3 at *
  generalize x.stands = st at *
  generalize x.kind = k at *
  clear h hs
  by_cases h0 : k = 0
  · subst h0
    replace HE := Lib.hid (HE.out.trans (if_pos rfl))
    go_enter Tryz.func87, Tryz.ntmps87
    go_wp2_with fail
    refine (H0.out).mono ?_
    rintro e w' ⟨rfl, rfl⟩
    go_wp2_with fail
    go_ret
    exact ⟨ret_bool HE.out.symm, Below.refl _ _⟩
  · have n0 : (k == 0) = false := beq_eq_false_iff_ne.2 h0
    replace HE := Lib.hid (HE.out.trans (if_neg h0))
    by_cases h1 : k = 1
    · subst h1
      replace HE := Lib.hid (HE.out.trans (if_pos rfl))
      go_enter Tryz.func87, Tryz.ntmps87
      go_wp2_with fail
      refine H1.out.mono ?_
      rintro e w1 ⟨rfl, hb⟩
      have HB := Lib.hid hb
      clear hb
      go_wp2_with fail
      go_ret
      exact ⟨ret_bool HE.out.symm, HB.out⟩
    · have n1 : (k == 1) = false := beq_eq_false_iff_ne.2 h1
      replace HE := Lib.hid (HE.out.trans (if_neg h1))
      by_cases h2 : k = 2
      · subst h2
        replace HE := Lib.hid (HE.out.trans (if_pos rfl))
        go_enter Tryz.func87, Tryz.ntmps87
        go_wp2_with fail
        refine H2.out.mono ?_
        rintro e w1 ⟨rfl, hb⟩
        have HB := Lib.hid hb
        clear hb
        go_wp2_with fail
        go_ret
        exact ⟨ret_bool HE.out.symm, HB.out⟩
      · have n2 : (k == 2) = false := beq_eq_false_iff_ne.2 h2
        replace HE := Lib.hid (HE.out.trans (if_neg h2))
        by_cases h3 : k = 3
        · subst h3
          replace HE := Lib.hid (HE.out.trans (if_pos rfl))
          go_enter Tryz.func87, Tryz.ntmps87
          go_wp2_with fail
          refine H3.out.mono ?_
          rintro e w1 ⟨rfl, hb⟩
          have HB := Lib.hid hb
          clear hb
          go_wp2_with fail
          go_ret
          exact ⟨ret_bool HE.out.symm, HB.out⟩
        · have n3 : (k == 3) = false := beq_eq_false_iff_ne.2 h3
          replace HE := Lib.hid (HE.out.trans (if_neg h3))
          go_enter Tryz.func87, Tryz.ntmps87
          go_wp2_with fail
          go_ret
          exact ⟨ret_bool HE.out.symm, Below.refl _ _⟩
theorem stands_all : ∀ (n : Nat) (x : Sexp), SizeOf.sizeOf x < n → StandsAt x := by
  intro n
  induction n with
  | zero => intro x hx; omega
  | succ n ih => exact fun x hx => stands_step x fun y hy => ih y (by have := Sexp.mem_lt hy; omega)
set_option maxHeartbeats 1600000 in
theorem sxmay_any {w : World} {A : Option Addr} {c : Nat} {x : Sexp} (h : SexpR w [.int .i8 x.kind, .string x.text, .slice A x.l.length c] x) :
    Calls Tryz.prog 72 #[.agg #[.int .i8 x.kind, .string x.text, .slice A x.l.length c]] w fun e w' => e = .returned (.bool x.may) ∧ Below w.heap.size w w' := by
  have HP := Lib.hid (ptr_box h)
  have HB := Lib.hid ((Below.refl w.heap.size w).alloc (Nat.le_refl _) (.cells #[.int .i8 x.kind, .string x.text, .slice A x.l.length c] 51))
  have HD := Lib.hid (depth_any _ x (Nat.lt_succ_self _) _ A c (SexpR.lasts _ _ _ _ HB.out h))
  have HS := Lib.hid (stands_all _ x (Nat.lt_succ_self _))
  have HM := Lib.hid (show x.may = (decide (x.depth ≤ 60) && x.stands) from rfl)
  clear h
  go_enter Tryz.func72, Tryz.ntmps72
  go_wp2_with fail
  refine HD.out.mono ?_
  rintro e w1 ⟨rfl, hb⟩
  have HP1 := Lib.hid (HP.out.on hb)
  have HB1 := Lib.hid (HB.out.trans (hb.mono HB.out.size))
  clear hb
  have hs := HS.out w1 _ A c HP1.out
  by_cases hd : x.depth ≤ 60
  · go_wp2_with fail
    refine hs.mono ?_
    rintro e w2 ⟨rfl, hb⟩
    have HB2 := Lib.hid (HB1.out.trans (hb.mono HB1.out.size))
    clear hb
    go_wp2_with fail
    go_ret
    exact ⟨ret_bool (by rw [HM.out, decide_eq_true hd]; rfl), HB2.out⟩
  · have hd2 := decide_eq_false hd
    clear hs
    go_wp2_with fail
    go_ret
    exact ⟨ret_bool (by rw [HM.out, hd2]; rfl), HB1.out⟩
end Go.Proofs.YtfcmpfaonpnbaaaGreatDoor.Dt
/- The program's sig: whether a macro may be. -/
namespace Go.Proofs.YtfcmpfaonpnbaaaGreatDoor.Sg
open Go.RowKit Go.Proofs.YtfcmpfaonpnbaaaGreatDoor.Dt

/-- one of the first k names -/
def NameIn (ns : List ByteArray) (k : Nat) (v : Value) : Prop := ∃ x, x ∈ ns.take k ∧ v = .string x
theorem nameIn_zero (ns : List ByteArray) (v : Value) : False ↔ NameIn ns 0 v := by simp [NameIn]
theorem nameIn_succ {ns : List ByteArray} {k : Nat} {y : ByteArray} (h : ns[k]? = some y) (v : Value) : (v = .string y ∨ NameIn ns k v) ↔ NameIn ns (k + 1) v := by
  unfold NameIn
  rw [List.take_add_one, h]
  constructor
  · rintro (rfl | ⟨x, hx, rfl⟩)
    · exact ⟨y, by simp, rfl⟩
    · exact ⟨x, by simp [hx], rfl⟩
  · rintro ⟨x, hx, rfl⟩
    rcases List.mem_append.1 hx with h1 | h1
    · exact .inr ⟨x, h1, rfl⟩
    · simp at h1; subst h1; exact .inl rfl
theorem nameIn_has {ns : List ByteArray} {k : Nat} {y : ByteArray} : NameIn ns k (.string y) ↔ hasB (ns.take k) y = true := by
  rw [hasB_iff]
  unfold NameIn
  constructor
  · rintro ⟨x, hx, e⟩; cases e; exact hx
  · intro h; exact ⟨y, h, rfl⟩

theorem Boxes.keeps {w w' : World} {b : Nat} {u0 u1 u2 m1 m2 m3 m4 m5 : Value} {S : Nat → Prop} (h : Boxes w b u0 u1 u2 m1 m2 m3 m4 m5) (hk : Keeps S w w') (h0 : ¬ S b) (h1 : ¬ S (b + 1)) : Boxes w' b u0 u1 u2 m1 m2 m3 m4 m5 := by
  have l0 : b < w.heap.size := by have := h.lt; omega
  exact ⟨Nat.lt_of_lt_of_le h.lt hk.size, (hk.cell l0 h0).trans h.u0, (hk.cell l0 h0).trans h.u1, (hk.cell l0 h0).trans h.u2, (hk.cell h.lt h1).trans h.m1, (hk.cell h.lt h1).trans h.m2, (hk.cell h.lt h1).trans h.m3, (hk.cell h.lt h1).trans h.m4, (hk.cell h.lt h1).trans h.m5⟩

set_option maxRecDepth 100000 in
set_option maxHeartbeats 3200000 in
theorem macro_any {w : World} {A1 A2 A3 : Option Addr} {n1 c1 n2 c2 n3 c3 : Nat} (hn : (n1 : Int) ≤ 140737488351232)
    {Ap Ab : Option Addr} {cp cb : Nat} (m : Macro) (hp : Lies 2 ParamR w Ap m.params) (hpl : m.params.length ≤ maxLen) (hx : SexpR w [.int .i8 m.body.kind, .string m.body.text, .slice Ab m.body.l.length cb] m.body) :
    Calls Tryz.prog 58 #[.agg #[.slice A1 n1 c1, .slice A2 n2 c2, .slice A3 n3 c3], .agg #[.string m.name, .slice Ap m.params.length cp, .int .i64 m.res, .int .i8 m.body.kind, .string m.body.text, .slice Ab m.body.l.length cb]] w fun e w' => e = .returned (.bool (macroB n1 m)) ∧ Below w.heap.size w w' := by
  have HTh := Lib.hid (fun s W => there_any A1 A2 A3 n1 c1 n2 c2 n3 c3 s W hn)
  have HSx := Lib.hid (fun W (hW : Below w.heap.size w W) => sxmay_any (SexpR.lasts _ _ _ _ hW hx))
  have HLp := Lib.hid (fun W (hW : Below w.heap.size w W) => hp.on ParamR.lasts hW)
  have HP := Lib.hid (fun k p => paramB_at (n := n1) (ps := m.params) (k := k) (p := p))
  have HPs := Lib.hid (paramsTo_succ n1 m.params)
  have HPx := Lib.hid (fun k hk h => paramsTo_stop (n := n1) (ps := m.params) (k := k) hk h)
  have HNm := Lib.hid (fun k x => map_at (l := m.params) (nm := Param.name) (k := k) (x := x))
  have HE := Lib.hid (show macroB n1 m = (decide (m.params.length ≤ 3) && thereB n1 m.res && m.body.may && paramsTo n1 m.params m.params.length) from rfl)
  have HZ := Lib.hid (show paramsTo n1 m.params 0 = true from rfl)
  clear hp hx
  generalize macroB n1 m = mb at *
  generalize paramsTo n1 m.params = pt at *
  generalize paramB n1 m.params = pb at *
  generalize m.params.map Param.name = ns at *
  generalize m.body.may = bm' at *
  generalize m.body.kind = bk at *
  generalize m.body.text = bt at *
  generalize m.body.l.length = bl at *
  generalize m.params = ps at *
  generalize m.res = res at *
  generalize m.name = nm at *
  have HPL := Lib.hid hpl
  have hpl2 : (ps.length : Int) ≤ 9223372036854775807 := by unfold maxLen at hpl; omega
  clear hpl
  have B2 := Lib.hid (((Below.refl w.heap.size w).alloc (Nat.le_refl _) (.cells #[.slice A1 n1 c1, .slice A2 n2 c2, .slice A3 n3 c3] 26)).alloc (by simp) (.cells #[.string nm, .slice Ap ps.length cp, .int .i64 res, .int .i8 bk, .string bt, .slice Ab bl cb] 53))
  have HX2 := Lib.hid (boxes_made w (.slice A1 n1 c1) (.slice A2 n2 c2) (.slice A3 n3 c3) (.string nm) (.slice Ap ps.length cp) (.int .i64 res) (.int .i8 bk) (.string bt) (.slice Ab bl cb) 26 53)
  have hmm := @run_makeMap Tryz.prog
  go_enter Tryz.func58, Tryz.ntmps58
  go_wp2_with fail
  have hz2 : ((w.alloc (.cells #[.slice A1 n1 c1, .slice A2 n2 c2, .slice A3 n3 c3] 26)).alloc (.cells #[.string nm, .slice Ap ps.length cp, .int .i64 res, .int .i8 bk, .string bt, .slice Ab bl cb] 53)).heap.size = w.heap.size + 1 + 1 := by simp
  generalize (w.alloc (.cells #[.slice A1 n1 c1, .slice A2 n2 c2, .slice A3 n3 c3] 26)).alloc (.cells #[.string nm, .slice Ap ps.length cp, .int .i64 res, .int .i8 bk, .string bt, .slice Ab bl cb] 53) = w2 at *
  have HMp := Lib.hid (show BoolMap Tryz.prog 9 4 (w2.alloc (.map #[] 0)) (w.heap.size + 1 + 1) 0 (NameIn ns 0) from by
    have := BoolMap.made w2 Tryz.prog 9 4
    rw [hz2] at this
    exact this.imp (nameIn_zero ns))
  have B3 := Lib.hid (B2.out.alloc B2.out.size (.map #[] 0))
  have HX3 := Lib.hid (HX2.out.on ((Below.refl w2.heap.size w2).alloc (Nat.le_refl _) (.map #[] 0)))
  clear hz2 HX2 B2
  generalize w2.alloc (.map #[] 0) = w3 at *
  have hbm : w.heap.size + 1 < w.heap.size + 1 + 1 := by omega
  generalize w.heap.size + 1 + 1 = bm at *
  clear hmm
  go_loopw [12] (fun v wr => ∃ k : Nat, k ≤ ps.length ∧ v = .int .i64 k ∧ pt k = true ∧ Keeps (· = bm) w3 wr ∧ BoolMap Tryz.prog 9 4 wr bm k (NameIn ns k)) (fun v _ => ps.length - (intOf v).toNat)
  case atStart => exact ⟨0, by omega, rfl, HZ.out, Keeps.refl _ _, HMp.out⟩
  case round =>
    obtain ⟨k, hk, rfl, hok, hkp, hmp⟩ := hrel
    have HO := Lib.hid hok
    have HK := Lib.hid hkp
    have B5 := Lib.hid (B3.out.trans (hkp.below (B := w.heap.size) (fun j e => by omega) B3.out.size))
    have HX5 := Lib.hid (HX3.out.keeps hkp (by show ¬ (w.heap.size = bm); omega) (by show ¬ (w.heap.size + 1 = bm); omega))
    have HM5 := Lib.hid hmp
    clear hok hkp hmp HMp
    by_cases hlt : k < ps.length
    · have hlt2 : (k : Int) < (ps.length : Int) := by omega
      have hx := List.getElem?_eq_getElem hlt
      generalize ps[k] = p at hx
      have HL5 := Lib.hid (HLp.out wr B5.out)
      obtain ⟨b, o, vs, rfl, hbl, _, hcell, hr⟩ := HL5.out.at' hx
      obtain ⟨rfl, hps, hpi⟩ := hr
      have c0 := hcell 0 _ rfl
      have c1 := hcell 1 _ rfl
      rw [Nat.add_zero] at c0
      have HPk := Lib.hid (HP.out k p hx)
      have HNk := Lib.hid (HNm.out k p hx)
      clear hx hcell
      generalize p.name = y at *
      generalize p.sort = sr at *
      obtain ⟨hz5, x0, x1, x2, y1, y2, y3, y4, y5⟩ := HX5.out
      have BA := Lib.hid ((Below.refl wr.heap.size wr).alloc (Nat.le_refl _) (.cells #[.string y, .int .i64 sr] 110))
      have HM6 := Lib.hid (HM5.out.alloc (.cells #[.string y, .int .i64 sr] 110))
      obtain ⟨c, hlk, hcS⟩ := HM6.out.look string_key Tryz.underlying108 Tryz.underlying4 zero_bool (keyOf_str hps)
      have z6 : wr.heap.size < (wr.alloc (.cells #[.string y, .int .i64 sr] 110)).heap.size := by simp
      have q0 : (wr.alloc (.cells #[.string y, .int .i64 sr] 110)).cell? ⟨wr.heap.size, 0, none⟩ = some (.string y) := by rw [World.cell?_alloc_mark]; rfl
      have q1 : (wr.alloc (.cells #[.string y, .int .i64 sr] 110)).cell? ⟨wr.heap.size, 1, none⟩ = some (.int .i64 sr) := by rw [World.cell?_alloc_mark]; rfl
      rw [nameIn_has] at hcS
      have HC := Lib.hid hcS
      clear hcS
      generalize hw6 : wr.alloc (.cells #[.string y, .int .i64 sr] 110) = w6 at *
      have B6 := Lib.hid (B5.out.trans (BA.out.mono B5.out.size))
      have K6 := Lib.hid (HK.out.trans_same (Keeps.of_below BA.out _))
      have HX6 := Lib.hid (HX5.out.on BA.out)
      have HU := Lib.hid (usable_any y w6 hps)
      have HPu := Lib.hid (show pb k = (usableB (Lx.bs y) && thereB n1 sr && !hasB (List.take k ns) y) from HPk.out)
      clear HX5 hz5 HPk
      cases c with
      | true =>
        have HR := Lib.hid (show mb = false by rw [HE.out]; simp [HPx.out k hlt (by rw [HPu.out, HC.out.1 rfl]; simp)])
        go_wp2_with fail
        go_ret
        exact ⟨ret_bool HR.out.symm, B6.out⟩
      | false =>
        have HNo := Lib.hid (show hasB (List.take k ns) y = false by cases hh : hasB (List.take k ns) y with | false => rfl | true => exact absurd (HC.out.2 hh) (by simp))
        replace HPu := Lib.hid (show pb k = (usableB (Lx.bs y) && thereB n1 sr) by rw [HPu.out, HNo.out]; simp)
        go_wp2_with fail
        clear hw6 x0 x1 x2 y1 y2 y3 y4 y5 c0 c1
        generalize usableB (Lx.bs y) = bu at *
        cases bu with
        | false =>
          have HR := Lib.hid (show mb = false by rw [HE.out]; simp [HPx.out k hlt (by rw [HPu.out]; rfl)])
          refine HU.out.mono ?_
          rintro e w7 ⟨rfl, rfl⟩
          go_wp2_with fail
          go_ret
          exact ⟨ret_bool HR.out.symm, B6.out⟩
        | true =>
          refine HU.out.mono ?_
          rintro e w7 ⟨rfl, rfl⟩
          obtain ⟨hz6, x0, x1, x2, y1, y2, y3, y4, y5⟩ := HX6.out
          have hcall := HTh.out sr w6
          go_wp2_with fail
          clear x0 x1 x2 y1 y2 y3 y4 y5
          cases ht : thereB n1 sr with
          | false =>
            have HR := Lib.hid (show mb = false by rw [HE.out]; simp [HPx.out k hlt (by rw [HPu.out, ht]; rfl)])
            rw [ht] at hcall
            clear ht
            refine hcall.mono ?_
            rintro e w7 ⟨rfl, hb⟩
            have B7 := Lib.hid (B6.out.trans (hb.mono B6.out.size))
            clear hb
            go_wp2_with fail
            go_ret
            exact ⟨ret_bool HR.out.symm, B7.out⟩
          | true =>
            have HR := Lib.hid (show pt (k + 1) = true by rw [HPs.out, HO.out, HPu.out, ht]; rfl)
            rw [ht] at hcall
            clear ht
            refine hcall.mono ?_
            rintro e w7 ⟨rfl, hb⟩
            have K7 := Lib.hid (K6.out.trans_same (Keeps.of_below hb _))
            have HM7 := Lib.hid (HM6.out.below hb)
            have r0 := ((bcell hb).1 wr.heap.size 0 z6).trans q0
            obtain ⟨w8, hup, hm8, hg8⟩ := HM7.out.store string_key Tryz.underlying108 Tryz.underlying4 (by have := HPL.out; omega) (keyOf_str hps)
            have HM8 := Lib.hid (hm8.imp (nameIn_succ HNk.out))
            have K8 := Lib.hid (K7.out.grown hg8 (fun j hj => by left; simpa using hj.symm))
            clear hb hm8 hg8 q0 q1 hcall hlk
            go_wp2_with fail
            go_roundw
            case rel => exact ⟨k + 1, by omega, by go_num, HR.out, K8.out, HM8.out⟩
            case measure => simp [intOf]; omega
    · obtain rfl : k = ps.length := by omega
      obtain ⟨hz5, x0, x1, x2, y1, y2, y3, y4, y5⟩ := HX5.out
      by_cases h3 : (ps.length : Int) ≤ 3
      · have h3' : decide ((ps.length : Int) ≤ 3) = true := decide_eq_true h3
        replace HE := Lib.hid (show mb = (thereB n1 res && bm') by rw [HE.out, HO.out, decide_eq_true (show ps.length ≤ 3 by omega)]; simp)
        have hcall := HTh.out res wr
        go_wp2_with fail
        clear x0 x1 x2 y1 y2 y3 y4 y5
        cases ht : thereB n1 res with
        | false =>
          replace HE := Lib.hid (show mb = false by rw [HE.out, ht]; rfl)
          rw [ht] at hcall
          clear ht
          refine hcall.mono ?_
          rintro e w7 ⟨rfl, hb⟩
          have B7 := Lib.hid (B5.out.trans (hb.mono B5.out.size))
          clear hb
          go_wp2_with fail
          go_ret
          exact ⟨ret_bool HE.out.symm, B7.out⟩
        | true =>
          replace HE := Lib.hid (show mb = bm' by rw [HE.out, ht]; rfl)
          rw [ht] at hcall
          clear ht
          refine hcall.mono ?_
          rintro e w7 ⟨rfl, hb⟩
          have B7 := Lib.hid (B5.out.trans (hb.mono B5.out.size))
          obtain ⟨hz7, x0, x1, x2, y1, y2, y3, y4, y5⟩ := HX5.out.on hb
          clear hb hcall
          have hcall := HSx.out w7 B7.out
          go_wp2_with fail
          refine hcall.mono ?_
          rintro e w8 ⟨rfl, hb⟩
          have B8 := Lib.hid (B7.out.trans (hb.mono B7.out.size))
          clear hb
          go_wp2_with fail
          go_ret
          exact ⟨ret_bool HE.out.symm, B8.out⟩
      · have h3' : decide ((ps.length : Int) ≤ 3) = false := decide_eq_false h3
        replace HE := Lib.hid (show mb = false by rw [HE.out, decide_eq_false (show ¬ ps.length ≤ 3 by omega)]; rfl)
        go_wp2_with fail
        go_ret
        exact ⟨ret_bool HE.out.symm, B5.out⟩
end Go.Proofs.YtfcmpfaonpnbaaaGreatDoor.Sg
