import Derived.Test.YtpmdcckapddchaaGreatShort
import Derived.Test.YtpmdcckapddchaaGreatMn
import Derived.Test.YtpmdcckapddchaaGreatMm
import Derived.Test.YtpmdcckapddchaaGreatMe
/- merged by wip/merge.py from: ElLeft ElMid ElRow ElAll -/
/- Terms put together from the left, and the kinds that are one node. -/
namespace Go.Proofs.YtpmdcckapddchaaGreat.El
open Go.RowKit Go.Maps Go.Proofs.YtpmdcckapddchaaGreat.Dt Go.Proofs.YtpmdcckapddchaaGreat.Sg

def ValsS (F : Fix) (w : World) (L : Option Addr) (l : List V) : Prop := Sta F (fun W => Lies 2 ValR W L l) w
theorem ValsS.on {F : Fix} {w w' : World} {L : Option Addr} {l : List V} (h : ValsS F w L l) (hk : Keeps (onMb F) w w') : ValsS F w' L l := Sta.on h hk
theorem ValsS.now {F : Fix} {w : World} {L : Option Addr} {l : List V} (h : ValsS F w L l) : Lies 2 ValR w L l := Sta.now h
theorem lies_one {w : World} {b : Nat} {v : V} {t : TypeId} (h : w.heap[b]? = some (.cells #[.int .i64 v.1, .int .i64 v.2] t (0, 0))) (hv : VI v) : Lies 2 ValR w (some ⟨b, 0, none⟩) [v] := by
 obtain ⟨c0, c1, _⟩ := Bk.c2 h
 refine .inr ⟨b, 0, rfl, lt_of_block h, fun i x hx => ?_⟩
 match i, hx with
 | 0, hx =>
  obtain rfl : v = x := by simpa using hx
  refine ⟨[.int .i64 v.1, .int .i64 v.2], rfl, fun j u hu => ?_, rfl, hv⟩
  match j, hu with
  | 0, hu => cases hu; exact c0
  | 1, hu => cases hu; exact c1
  | j + 2, hu => simp at hu
 | i + 1, hx => simp at hx
theorem lies_two {w : World} {b : Nat} {v u : V} {t : TypeId} (h : w.heap[b]? = some (.cells #[.int .i64 v.1, .int .i64 v.2, .int .i64 u.1, .int .i64 u.2] t (0, 0))) (hv : VI v) (hu : VI u) : Lies 2 ValR w (some ⟨b, 0, none⟩) [v, u] := by
 obtain ⟨c0, c1, c2, c3, _⟩ := Bk.c4 h
 refine .inr ⟨b, 0, rfl, lt_of_block h, fun i x hx => ?_⟩
 match i, hx with
 | 0, hx =>
  obtain rfl : v = x := by simpa using hx
  refine ⟨[.int .i64 v.1, .int .i64 v.2], rfl, fun j u hu => ?_, rfl, hv⟩
  match j, hu with
  | 0, hu => cases hu; exact c0
  | 1, hu => cases hu; exact c1
  | j + 2, hu => simp at hu
 | 1, hx =>
  obtain rfl : u = x := by simpa using hx
  refine ⟨[.int .i64 u.1, .int .i64 u.2], rfl, fun j u hu => ?_, rfl, hu⟩
  match j, hu with
  | 0, hu => cases hu; exact c2
  | 1, hu => cases hu; exact c3
  | j + 2, hu => simp at hu
 | i + 2, hx => simp at hx
theorem I8.of {n : Int} (h0 : 0 ≤ n) (h1 : n ≤ 127) : I8 n := by
 unfold I8; simp [Lit.wf]; rw [show IntKind.i8.min = -128 by rfl, show IntKind.i8.max = 127 by rfl]; omega
set_option maxHeartbeats 1600000 in
theorem not_any {F : Fix} (hF : FixOk F) {w : World} {known : Int} {st : St} {At : Option Addr} {ct : Nat} (hm : Mk F w known st At ct) {L : Option Addr} {l : List V} (cl : Nat) (hl : ValsS F w L l) (h3 : l.length ≤ 3) :
  Calls Tryz.prog 121 #[.pointer (some ⟨F.mb, 0, none⟩), .slice L l.length cl] w (MkPost F known w st.t At (opM F.c 1 0 l st).1 (opM F.c 1 0 l st).2) := by
 have B1 := kp ((Below.refl w.heap.size w).alloc (Nat.le_refl _) (.cells #[.int .i64 0, .int .i64 0] 69))
 have RB := kp (Bk.new w (.cells #[.int .i64 0, .int .i64 0] 69))
 have hlt := hm.lt
 have HFr := kp (hm.new_far (Nat.le_refl w.heap.size))
 have HC := kp (op_any hF (hm.keep B1.out) 1 0 (I8.of (by decide) (by decide)) v0_VI.1 cl ((hl.on (Keeps.of_below B1.out _)).now) h3)
 generalize opM F.c 1 0 l st = res at *
 go_enter Tryz.func121, Tryz.ntmps121
 go_upto_region 1 with fail
 generalize w.alloc (.cells #[.int .i64 0, .int .i64 0] 69) = w1 at *
 go_wp2_with fail
 refine HC.out.mono ?_
 rintro e w7 ⟨rfl, hv, hk7, A7, c7, hm7, ht7⟩
 have R7 := kp ((hk7.block w.heap.size (lt_of_block RB.out) (by unfold onMb; omega)).trans RB.out)
 have M7 := kp hm7
 have K7 := kp ((Keeps.of_below B1.out (onMb F)).trans_same hk7)
 have HT7 := kp (ht7.mono B1.out.size)
 have HF7 := kp (Far.of_tn HFr.out ht7 (lt_of_block RB.out))
 unfold valV
 clear hk7 hm7 ht7
 obtain ⟨r0, r1, rf⟩ := Bk.c2 R7.out
 go_wp2_with fail
 refine mk_end (v := res.1) hF Tryz.results121 M7.out hlt K7.out HT7.out (Nat.le_refl _) HF7.out R7.out ?_ ?_ hv <;> rfl
set_option maxHeartbeats 1600000 in
theorem ite_any {F : Fix} (hF : FixOk F) {w : World} {known : Int} {st : St} {At : Option Addr} {ct : Nat} (hm : Mk F w known st At ct) {L : Option Addr} {l : List V} (cl : Nat) (hl : ValsS F w L l) (h3 : l.length ≤ 3) :
  Calls Tryz.prog 128 #[.pointer (some ⟨F.mb, 0, none⟩), .slice L l.length cl] w (MkPost F known w st.t At (opM F.c 7 0 l st).1 (opM F.c 7 0 l st).2) := by
 have B1 := kp ((Below.refl w.heap.size w).alloc (Nat.le_refl _) (.cells #[.int .i64 0, .int .i64 0] 69))
 have RB := kp (Bk.new w (.cells #[.int .i64 0, .int .i64 0] 69))
 have hlt := hm.lt
 have HFr := kp (hm.new_far (Nat.le_refl w.heap.size))
 have HC := kp (op_any hF (hm.keep B1.out) 7 0 (I8.of (by decide) (by decide)) v0_VI.1 cl ((hl.on (Keeps.of_below B1.out _)).now) h3)
 generalize opM F.c 7 0 l st = res at *
 go_enter Tryz.func128, Tryz.ntmps128
 go_upto_region 1 with fail
 generalize w.alloc (.cells #[.int .i64 0, .int .i64 0] 69) = w1 at *
 go_wp2_with fail
 refine HC.out.mono ?_
 rintro e w7 ⟨rfl, hv, hk7, A7, c7, hm7, ht7⟩
 have R7 := kp ((hk7.block w.heap.size (lt_of_block RB.out) (by unfold onMb; omega)).trans RB.out)
 have M7 := kp hm7
 have K7 := kp ((Keeps.of_below B1.out (onMb F)).trans_same hk7)
 have HT7 := kp (ht7.mono B1.out.size)
 have HF7 := kp (Far.of_tn HFr.out ht7 (lt_of_block RB.out))
 unfold valV
 clear hk7 hm7 ht7
 obtain ⟨r0, r1, rf⟩ := Bk.c2 R7.out
 go_wp2_with fail
 refine mk_end (v := res.1) hF Tryz.results128 M7.out hlt K7.out HT7.out (Nat.le_refl _) HF7.out R7.out ?_ ?_ hv <;> rfl
set_option maxHeartbeats 1600000 in
theorem le_any {F : Fix} (hF : FixOk F) {w : World} {known : Int} {st : St} {At : Option Addr} {ct : Nat} (hm : Mk F w known st At ct) {L : Option Addr} {l : List V} (cl : Nat) (hl : ValsS F w L l) (h3 : l.length ≤ 3) :
  Calls Tryz.prog 129 #[.pointer (some ⟨F.mb, 0, none⟩), .slice L l.length cl] w (MkPost F known w st.t At (opM F.c 8 0 l st).1 (opM F.c 8 0 l st).2) := by
 have B1 := kp ((Below.refl w.heap.size w).alloc (Nat.le_refl _) (.cells #[.int .i64 0, .int .i64 0] 69))
 have RB := kp (Bk.new w (.cells #[.int .i64 0, .int .i64 0] 69))
 have hlt := hm.lt
 have HFr := kp (hm.new_far (Nat.le_refl w.heap.size))
 have HC := kp (op_any hF (hm.keep B1.out) 8 0 (I8.of (by decide) (by decide)) v0_VI.1 cl ((hl.on (Keeps.of_below B1.out _)).now) h3)
 generalize opM F.c 8 0 l st = res at *
 go_enter Tryz.func129, Tryz.ntmps129
 go_upto_region 1 with fail
 generalize w.alloc (.cells #[.int .i64 0, .int .i64 0] 69) = w1 at *
 go_wp2_with fail
 refine HC.out.mono ?_
 rintro e w7 ⟨rfl, hv, hk7, A7, c7, hm7, ht7⟩
 have R7 := kp ((hk7.block w.heap.size (lt_of_block RB.out) (by unfold onMb; omega)).trans RB.out)
 have M7 := kp hm7
 have K7 := kp ((Keeps.of_below B1.out (onMb F)).trans_same hk7)
 have HT7 := kp (ht7.mono B1.out.size)
 have HF7 := kp (Far.of_tn HFr.out ht7 (lt_of_block RB.out))
 unfold valV
 clear hk7 hm7 ht7
 obtain ⟨r0, r1, rf⟩ := Bk.c2 R7.out
 go_wp2_with fail
 refine mk_end (v := res.1) hF Tryz.results129 M7.out hlt K7.out HT7.out (Nat.le_refl _) HF7.out R7.out ?_ ?_ hv <;> rfl
set_option maxHeartbeats 1600000 in
theorem lt_any {F : Fix} (hF : FixOk F) {w : World} {known : Int} {st : St} {At : Option Addr} {ct : Nat} (hm : Mk F w known st At ct) {L : Option Addr} {l : List V} (cl : Nat) (hl : ValsS F w L l) (h3 : l.length ≤ 3) :
  Calls Tryz.prog 130 #[.pointer (some ⟨F.mb, 0, none⟩), .slice L l.length cl] w (MkPost F known w st.t At (opM F.c 9 0 l st).1 (opM F.c 9 0 l st).2) := by
 have B1 := kp ((Below.refl w.heap.size w).alloc (Nat.le_refl _) (.cells #[.int .i64 0, .int .i64 0] 69))
 have RB := kp (Bk.new w (.cells #[.int .i64 0, .int .i64 0] 69))
 have hlt := hm.lt
 have HFr := kp (hm.new_far (Nat.le_refl w.heap.size))
 have HC := kp (op_any hF (hm.keep B1.out) 9 0 (I8.of (by decide) (by decide)) v0_VI.1 cl ((hl.on (Keeps.of_below B1.out _)).now) h3)
 generalize opM F.c 9 0 l st = res at *
 go_enter Tryz.func130, Tryz.ntmps130
 go_upto_region 1 with fail
 generalize w.alloc (.cells #[.int .i64 0, .int .i64 0] 69) = w1 at *
 go_wp2_with fail
 refine HC.out.mono ?_
 rintro e w7 ⟨rfl, hv, hk7, A7, c7, hm7, ht7⟩
 have R7 := kp ((hk7.block w.heap.size (lt_of_block RB.out) (by unfold onMb; omega)).trans RB.out)
 have M7 := kp hm7
 have K7 := kp ((Keeps.of_below B1.out (onMb F)).trans_same hk7)
 have HT7 := kp (ht7.mono B1.out.size)
 have HF7 := kp (Far.of_tn HFr.out ht7 (lt_of_block RB.out))
 unfold valV
 clear hk7 hm7 ht7
 obtain ⟨r0, r1, rf⟩ := Bk.c2 R7.out
 go_wp2_with fail
 refine mk_end (v := res.1) hF Tryz.results130 M7.out hlt K7.out HT7.out (Nat.le_refl _) HF7.out R7.out ?_ ?_ hv <;> rfl
theorem Mk.other2 {F : Fix} (hF : FixOk F) {w : World} {known : Int} {st : St} {At : Option Addr} {ct : Nat} (h : Mk F w known st At ct) {k : Nat} (hk : F.mb < k) (hf : Far k st.t At) (u v : Value) : Mk F ((w.setCell ⟨k, 0, none⟩ u).setCell ⟨k, 1, none⟩ v) known st At ct := (h.other hF hk hf 0 u).other hF hk hf 1 v
set_option maxRecDepth 100000 in
set_option maxHeartbeats 6400000 in
theorem left_any {F : Fix} (hF : FixOk F) {w : World} {known : Int} {st : St} {At : Option Addr} {ct : Nat} (hm : Mk F w known st At ct) (op : Int) (hop : I8 op) {L : Option Addr} {l : List V} (cl : Nat) (hcl : l.length ≤ cl) (hl : ValsS F w L l) (h1 : l ≠ []) (hll : l.length ≤ 8000000000000) :
  Calls Tryz.prog 170 #[.pointer (some ⟨F.mb, 0, none⟩), .int .i8 op, .slice L l.length cl] w (MkPost F known w st.t At (headM F.c op l st).1 (headM F.c op l st).2) := by
 obtain ⟨x, r, rfl⟩ := List.exists_cons_of_ne_nil h1
 have HS := kp (show headM F.c op (x :: r) st = leftM F.c op x r st from rfl)
 have HLn := kp (show (x :: r).length = r.length + 1 from rfl)
 have hrl : r.length < 8000000000000 := by rw [HLn.out] at hll; omega
 have B1 := kp ((Below.refl w.heap.size w).alloc (Nat.le_refl _) (.cells #[.int .i64 0, .int .i64 0] 69))
 have R1 := kp (Bk.new w (.cells #[.int .i64 0, .int .i64 0] 69))
 have hlt := hm.lt
 have HFr := kp (hm.new_far (Nat.le_refl w.heap.size))
 have HFv := kp (hm.new_far (show w.heap.size ≤ w.heap.size + 1 by omega))
 have M1 := kp (hm.keep B1.out)
 have Z1 := kp (show (w.alloc (.cells #[.int .i64 0, .int .i64 0] 69)).heap.size = w.heap.size + 1 by simp)
 have HLv := kp hl
 obtain ⟨b, o, rfl, _, _, _, hvx⟩ := val_get hl.now (k := 0) (v := x) rfl
 have HVx := kp hvx
 clear hvx hl hll h1
 generalize headM F.c op (x :: r) st = res at *
 go_enter Tryz.func170, Tryz.ntmps170
 go_upto_region 1 with fail
 generalize w.alloc (.cells #[.int .i64 0, .int .i64 0] 69) = w1 at *
 obtain ⟨b', o', hA, _, e0, e1, _⟩ := val_get (HLv.out.on (Keeps.of_below B1.out _)).now (k := 0) (v := x) rfl
 simp only [Option.some.injEq, Addr.mk.injEq, and_true] at hA
 obtain ⟨rfl, rfl⟩ := hA
 rw [Nat.zero_mul, Nat.add_zero] at e0 e1
 have V2 := kp (show (w1.alloc (.cells #[.int .i64 x.1, .int .i64 x.2] 69)).heap[w.heap.size + 1]? = some (.cells #[.int .i64 x.1, .int .i64 x.2] 69 (0, 0)) by have h := Bk.new w1 (.cells #[.int .i64 x.1, .int .i64 x.2] 69); rwa [Z1.out] at h)
 have R2 := kp (Bk.keep R1.out (.cells #[.int .i64 x.1, .int .i64 x.2] 69))
 have M2 := kp (M1.out.keep ((Below.refl w1.heap.size w1).alloc (Nat.le_refl _) (.cells #[.int .i64 x.1, .int .i64 x.2] 69)))
 have K2 := kp (Keeps.of_below (B1.out.alloc B1.out.size (.cells #[.int .i64 x.1, .int .i64 x.2] 69)) (onMb F))
 have Z2 := kp (show w.heap.size + 2 ≤ (w1.alloc (.cells #[.int .i64 x.1, .int .i64 x.2] 69)).heap.size by simp [Z1.out])
 have hpos : (0 : Int) < ((x :: r).length : Int) := by rw [HLn.out]; omega
 generalize hxn : (x :: r).length = xn at *
 obtain rfl : xn = r.length + 1 := HLn.out
 go_upto_region 2 with fail
 try rw [Z1.out]
 generalize w1.alloc (.cells #[.int .i64 x.1, .int .i64 x.2] 69) = w2 at *
 clear e0 e1 hxn
 have HCl := kp hcl
 by_cases hc1 : cl = 1
 ·subst hc1
  obtain rfl : r = [] := List.length_eq_zero_iff.1 (by omega)
  replace HS := kp (show res = (x, st) from HS.out)
  go_wp2_with fail
  go_loopw [16] (fun i' wr => i' = .int .i64 0 ∧ w2 = wr) (fun _ _ => 0)
  case atStart => exact ⟨rfl, rfl⟩
  case round =>
   obtain ⟨rfl, rfl⟩ := hrel
   obtain ⟨v0', v1', vf⟩ := Bk.c2 V2.out
   obtain ⟨r0, r1, rf⟩ := Bk.c2 R2.out
   go_wp2_with fail
   rw [HS.out]
   refine mk_end (v := x) hF Tryz.results170 M2.out hlt K2.out (TN.refl _ _ _) (Nat.le_refl _) HFr.out R2.out ?_ ?_ HVx.out <;> rfl
 ·have hcl2 : 1 ≤ cl := by omega
  go_wp2_with fail
  go_loopw [16] (fun i' wr => ∃ (k : Nat) (v : V) (st' : St) (A' : Option Addr) (c' : Nat), k ≤ r.length ∧ i' = .int .i64 k ∧ res = leftM F.c op v (r.drop k) st' ∧ VI v ∧ Keeps (onMb F) w wr ∧ Mk F wr known st' A' c' ∧ TN (w.heap.size + 2) st.t At st'.t A' ∧ w.heap.size + 2 ≤ wr.heap.size ∧ wr.heap[w.heap.size]? = some (.cells #[.int .i64 0, .int .i64 0] 69 (0, 0)) ∧ wr.heap[w.heap.size + 1]? = some (.cells #[.int .i64 v.1, .int .i64 v.2] 69 (0, 0))) (fun i' _ => r.length - (intOf i').toNat)
  case atStart => exact ⟨0, x, st, At, ct, Nat.zero_le _, rfl, HS.out, HVx.out, K2.out, M2.out, TN.refl _ _ _, Z2.out, R2.out, V2.out⟩
  case round =>
   obtain ⟨k, v, st', A', c', hk, rfl, hres, hv, hkk, hmk, htn, hz, hrb, hvb⟩ := hrel
   have HRes := kp hres
   have HV := kp hv
   have KR := kp hkk
   have MR := kp hmk
   have TR := kp htn
   have ZR := kp hz
   have RR := kp hrb
   have VR := kp hvb
   clear hres hv hkk hmk htn hz hrb hvb
   by_cases hkl : k < r.length
   ·have hlt2 : (k : Int) < (r.length : Int) := by omega
    obtain ⟨y, hy⟩ : ∃ y, r[k]? = some y := ⟨_, List.getElem?_eq_getElem hkl⟩
    have HDr := kp (show r.drop k = y :: r.drop (k + 1) by
     rw [List.drop_eq_getElem_cons hkl]
     rw [List.getElem?_eq_getElem hkl] at hy
     simp at hy
     rw [hy])
    rw [HDr.out] at HRes
    replace HRes := kp (show res = leftM F.c op (opM F.c op 0 [v, y] st').1 (r.drop (k + 1)) (opM F.c op 0 [v, y] st').2 from HRes.out)
    obtain ⟨b2, o2, hA, _, e0, e1, hvy⟩ := val_get (HLv.out.on KR.out).now (k := k + 1) (v := y) (by simpa using hy)
    simp only [Option.some.injEq, Addr.mk.injEq, and_true] at hA
    obtain ⟨rfl, rfl⟩ := hA
    rw [show o + (k + 1) * 2 = o + 2 + k * 2 by omega] at e0 e1
    have HY := kp hvy
    have BA := kp ((Below.refl wr.heap.size wr).alloc (Nat.le_refl _) (.cells #[.int .i64 y.1, .int .i64 y.2] 69))
    have RA := kp (Bk.keep RR.out (.cells #[.int .i64 y.1, .int .i64 y.2] 69))
    have VA := kp (Bk.keep VR.out (.cells #[.int .i64 y.1, .int .i64 y.2] 69))
    have YA := kp (Bk.new wr (.cells #[.int .i64 y.1, .int .i64 y.2] 69))
    clear hvy hy
    go_upto_region 5 with fail
    generalize hwa : wr.alloc (.cells #[.int .i64 y.1, .int .i64 y.2] 69) = wa at *
    clear hwa e0 e1
    have BB := kp (BA.out.alloc BA.out.size (.cells #[.int .i64 v.1, .int .i64 v.2, .int .i64 y.1, .int .i64 y.2] 69))
    have RB := kp (Bk.keep RA.out (.cells #[.int .i64 v.1, .int .i64 v.2, .int .i64 y.1, .int .i64 y.2] 69))
    have VB := kp (Bk.keep VA.out (.cells #[.int .i64 v.1, .int .i64 v.2, .int .i64 y.1, .int .i64 y.2] 69))
    have LB := kp (lies_two (Bk.new wa (.cells #[.int .i64 v.1, .int .i64 v.2, .int .i64 y.1, .int .i64 y.2] 69)) HV.out HY.out)
    have HOp := kp (op_any hF (MR.out.keep BB.out) op 0 hop v0_VI.1 2 LB.out (Nat.le_succ 2))
    generalize opM F.c op 0 [v, y] st' = pr at *
    obtain ⟨pv, ps⟩ := pr
    obtain ⟨v0', v1', vf⟩ := Bk.c2 VA.out
    obtain ⟨y0', y1', yf⟩ := Bk.c2 YA.out
    go_wp2_with fail
    refine HOp.out.mono ?_
    rintro e w7 ⟨rfl, hv, hk7, A7, c7, hm7, ht7⟩
    have hne0 : w.heap.size ≠ F.mb := by omega
    have hne1 : w.heap.size + 1 ≠ F.mb := by omega
    have R7 := kp ((hk7.block w.heap.size (lt_of_block RB.out) hne0).trans RB.out)
    have V7 := kp ((hk7.block (w.heap.size + 1) (lt_of_block VB.out) hne1).trans VB.out)
    have Z7 := kp (Nat.le_trans ZR.out (Nat.le_trans BB.out.size hk7.size))
    have T7 := kp (TR.out.trans ht7 (by have := ZR.out; have := BB.out.size; omega))
    have F7 := kp (Far.of_tn HFv.out T7.out (by omega))
    have M7 := kp (Mk.other2 hF hm7 (show F.mb < w.heap.size + 1 by omega) F7.out (.int .i64 pv.1) (.int .i64 pv.2))
    have K7 := kp ((((KR.out.trans_same (Keeps.of_below BB.out _)).trans_same hk7).setCell (p := ⟨w.heap.size + 1, 0, none⟩) (.inr (Nat.le_succ _)) (.int .i64 pv.1)).setCell (p := ⟨w.heap.size + 1, 1, none⟩) (.inr (Nat.le_succ _)) (.int .i64 pv.2))
    have V8 := kp (Bk.set_at (Bk.set_at V7.out 0 (.int .i64 pv.1)) 1 (.int .i64 pv.2))
    have R8 := kp (Bk.apart (Bk.apart R7.out (p := ⟨w.heap.size + 1, 0, none⟩) (by show w.heap.size ≠ w.heap.size + 1; omega) (.int .i64 pv.1)) (p := ⟨w.heap.size + 1, 1, none⟩) (by show w.heap.size ≠ w.heap.size + 1; omega) (.int .i64 pv.2))
    have HPv := kp hv
    unfold valV
    clear hk7 hm7 ht7 hv v0' v1' vf y0' y1' yf
    obtain ⟨v0', v1', vf⟩ := Bk.c2 V7.out
    go_wp2_with fail
    go_roundw
    case rel => exact ⟨k + 1, pv, ps, A7, c7, by omega, by go_num, HRes.out, HPv.out, K7.out, M7.out, T7.out, by have := Z7.out; simpa [World.setCell] using this, R8.out, V8.out⟩
    case measure => simp [intOf]; omega
   ·obtain rfl : k = r.length := by omega
    replace HRes := kp (show res = (v, st') by rw [HRes.out, List.drop_length]; rfl)
    have FR := kp (Far.of_tn HFr.out TR.out (by omega))
    obtain ⟨v0', v1', vf⟩ := Bk.c2 VR.out
    obtain ⟨r0, r1, rf⟩ := Bk.c2 RR.out
    go_wp2_with fail
    rw [HRes.out]
    refine mk_end (v := v) hF Tryz.results170 MR.out hlt KR.out (TR.out.mono (by omega)) (Nat.le_refl _) FR.out RR.out ?_ ?_ HV.out <;> rfl
end Go.Proofs.YtpmdcckapddchaaGreat.El
/- A maker's function that is under way: its result's cell, its maker, what it has kept. -/
namespace Go.Proofs.YtpmdcckapddchaaGreat.El
open Go.RowKit Go.Maps Go.Proofs.YtpmdcckapddchaaGreat.Dt Go.Proofs.YtpmdcckapddchaaGreat.Sg

theorem Far.call {W : World} {t t' : List Node} {At At' : Option Addr} {k : Nat} (h : Far k t At) (ht : TN W.heap.size t At t' At') (hk : k < W.heap.size) : Far k t' At' := Far.of_tn h ht hk
structure Mid (F : Fix) (known : Int) (w : World) (t : List Node) (At : Option Addr) (rb : Nat) (W : World) (st' : St) (A' : Option Addr) (c' : Nat) : Prop where
 maker : Mk F W known st' A' c'
 keeps : Keeps (onMb F) w W
 tn : TN w.heap.size t At st'.t A'
 far : Far rb st'.t A'
 cell : W.heap[rb]? = some (.cells #[.int .i64 0, .int .i64 0] 69 (0, 0))
 lt : F.mb < w.heap.size
 le : w.heap.size ≤ rb
section
variable {F : Fix} {known : Int} {w W W7 : World} {st st' s7 : St} {t : List Node} {At A' A7 : Option Addr} {rb ct c' c7 : Nat}
theorem Mid.new (hm : Mk F w known st At ct) : Mid F known w st.t At w.heap.size (w.alloc (.cells #[.int .i64 0, .int .i64 0] 69)) st At ct :=
 ⟨hm.keep ((Below.refl _ _).alloc (Nat.le_refl _) _), Keeps.of_below ((Below.refl _ _).alloc (Nat.le_refl _) _) _, TN.refl _ _ _, hm.new_far (Nat.le_refl _), Bk.new w _, hm.lt, Nat.le_refl _⟩
theorem Mid.newOn (hm : Mk F w known st At ct) (hb : Below w.heap.size w W) : Mid F known w st.t At W.heap.size (W.alloc (.cells #[.int .i64 0, .int .i64 0] 69)) st At ct :=
 ⟨hm.keep (hb.alloc hb.size _), Keeps.of_below (hb.alloc hb.size _) _, TN.refl _ _ _, hm.new_far hb.size, Bk.new W _, hm.lt, hb.size⟩
theorem Mid.ne (h : Mid F known w t At rb W st' A' c') {k : Nat} (hk : w.heap.size ≤ k) : ¬ onMb F k := by
 have := h.lt
 unfold onMb; omega
theorem Mid.size (h : Mid F known w t At rb W st' A' c') : rb < W.heap.size := lt_of_block h.cell
theorem Mid.below (h : Mid F known w t At rb W st' A' c') (hb : Below W.heap.size W W7) : Mid F known w t At rb W7 st' A' c' :=
 ⟨h.maker.keep hb, h.keeps.trans_same (Keeps.of_below hb _), h.tn, h.far, Bk.on h.cell hb, h.lt, h.le⟩
theorem Mid.alloc (h : Mid F known w t At rb W st' A' c') (o : Obj) : Mid F known w t At rb (W.alloc o) st' A' c' := h.below ((Below.refl _ _).alloc (Nat.le_refl _) o)
theorem Mid.drew (h : Mid F known w t At rb W st' A' c') : Mid F known w t At rb W.drew st' A' c' := h.below (Below.refl _ _).drew
theorem Mid.call (h : Mid F known w t At rb W st' A' c') (hk : Keeps (onMb F) W W7) (hm : Mk F W7 known s7 A7 c7) (ht : TN W.heap.size st'.t A' s7.t A7) : Mid F known w t At rb W7 s7 A7 c7 :=
 ⟨hm, h.keeps.trans_same hk, h.tn.trans ht h.keeps.size, Far.of_tn h.far ht h.size, (hk.block rb h.size (h.ne h.le)).trans h.cell, h.lt, h.le⟩
theorem Mid.other (hF : FixOk F) (h : Mid F known w t At rb W st' A' c') {k : Nat} (hk : w.heap.size ≤ k) (hn : k ≠ rb) (hf : Far k st'.t A') (j : Nat) (u : Value) : Mid F known w t At rb (W.setCell ⟨k, j, none⟩ u) st' A' c' :=
 ⟨h.maker.other hF (by have := h.lt; omega) hf j u, h.keeps.setCell (p := ⟨k, j, none⟩) (.inr hk) u, h.tn, h.far, Bk.apart h.cell (p := ⟨k, j, none⟩) (Ne.symm hn) u, h.lt, h.le⟩
theorem Mid.blk (h : Mid F known w t At rb W st' A' c') (hk : Keeps (onMb F) W W7) {k : Nat} {o : Obj} (hb : W.heap[k]? = some o) (hw : w.heap.size ≤ k) : W7.heap[k]? = some o := (hk.block k (lt_of_block hb) (h.ne hw)).trans hb
theorem Mid.fresh (h : Mid F known w t At rb W st' A' c') {k : Nat} (hk : W.heap.size ≤ k) : Far k st'.t A' := h.maker.new_far hk
theorem Mid.ret (hF : FixOk F) (h : Mid F known w t At rb W st' A' c') {f : Func} {k : Nat} {v : V} {act : Act} (hf : f.results = #[.cell k 69]) (h2 : act.tmps[k]? = some (.pointer (some ⟨rb, 0, none⟩))) (hd : act.defers = []) (hv : VI v) :
  bodyPost Tryz.prog f (MkPost F known w t At v st') .ret act ((W.setCell ⟨rb, 0, none⟩ (.int .i64 v.1)).setCell ⟨rb, 1, none⟩ (.int .i64 v.2)) :=
 mk_end hF hf h.maker h.lt h.keeps h.tn h.le h.far h.cell h2 hd hv
end
theorem ValsS.below {F : Fix} {w w' : World} {L : Option Addr} {l : List V} (h : ValsS F w L l) (hb : Below w.heap.size w w') : ValsS F w' L l := h.on (Keeps.of_below hb _)
theorem EnvS.below {F : Fix} {w w' : World} {p : Option Addr} {env : Env} (h : EnvS F w p env) (hb : Below w.heap.size w w') : EnvS F w' p env := h.on (Keeps.of_below hb _)
theorem EnvS.now {F : Fix} {w : World} {p : Option Addr} {env : Env} (h : EnvS F w p env) : ∃ ls : List Env, ls.flatten = env ∧ EnvR w p ls := by
 obtain ⟨ls, h1, h2⟩ := h
 exact ⟨ls, h1, h2.now⟩
end Go.Proofs.YtpmdcckapddchaaGreat.El
/- Rows of values that a maker's function grows. -/
namespace Go.Proofs.YtpmdcckapddchaaGreat.El
open Go.RowKit Go.Maps Go.Proofs.YtpmdcckapddchaaGreat.Dt Go.Proofs.YtpmdcckapddchaaGreat.Sg

def vv (v : V) : List Value := [.int .i64 v.1, .int .i64 v.2]
theorem info_val : (Tryz.prog.info? 69).map (fun i => (i.zero, i.size, i.bytes)) = some (some (.agg #[.int .i64 0, .int .i64 0]), 2, 16) := by kernel_rfl
structure VRow (base : Nat) (t : List Node) (At : Option Addr) (w : World) (v : Value) (vs : List V) : Prop where
 own : w.ownsRow base 69 2 v vs.length (flatV vv vs)
 vi : ∀ u ∈ vs, VI u
 far : ∀ g, v.ownBlock = some g → Far g t At
section
variable {F : Fix} {base : Nat} {t t7 : List Node} {At A7 : Option Addr} {w w' : World} {v : Value} {vs : List V}
theorem VRow.nil (base : Nat) (t : List Node) (At : Option Addr) (w : World) : VRow base t At w (.slice none 0 0) [] := ⟨⟨by simp [flatV], .inl ⟨rfl, rfl⟩⟩, fun u hu => (by cases hu), fun g hg => (by cases hg)⟩
theorem VRow.shape (h : VRow base t At w v vs) : ∃ A c, v = .slice A vs.length c ∧ vs.length ≤ c ∧ c ≤ maxLen := by
 rcases h.own.2 with ⟨h1, h2⟩ | ⟨g, cap, cur, h1, _, _, h2, h3, _⟩
 ·exact ⟨none, 0, by rw [h2]; exact h1, by omega, by unfold maxLen; omega⟩
 ·exact ⟨_, cap, h1, h2, h3⟩
theorem VRow.lies {A : Option Addr} {k c : Nat} (h : VRow base t At w (.slice A k c) vs) : Lies 2 ValR w A vs := by
 rcases h.own.2 with ⟨h1, h2⟩ | ⟨g, cap, cur, h1, hg, hat, h2, h3, h4, h5⟩
 ·exact .inl (List.length_eq_zero_iff.1 h2)
 ·simp only [Value.slice.injEq] at h1
  refine .inr ⟨g, 0, h1.1, lt_of_block hat, fun i x hx => ?_⟩
  refine ⟨vv x, rfl, fun j u hu => ?_, rfl, h.vi x (List.mem_of_getElem? hx)⟩
  rw [Nat.zero_add, cell_of_row w g (i * 2 + j) cur 69 (0, 0) hat]
  have := flatV_at (n := 2) (val := vv) (fun _ => rfl) vs i x hx j u hu
  rw [← h5, List.getElem?_take] at this
  split at this
  ·simpa using this
  ·cases this
theorem VRow.keep (h : VRow base t At w v vs) (hk : Keeps (onMb F) w w') (hb : F.mb < base) : VRow base t At w' v vs :=
 ⟨owns_keepE h.own hk (fun k hk => by unfold onMb at hk; omega), h.vi, h.far⟩
theorem VRow.below (h : VRow base t At w v vs) (hb : Below w.heap.size w w') : VRow base t At w' v vs :=
 ⟨owns_keepE h.own (Keeps.of_below hb (fun _ => False)) (fun _ hk => hk.elim), h.vi, h.far⟩
theorem VRow.call (h : VRow base t At w v vs) (hk : Keeps (onMb F) w w') (ht : TN w.heap.size t At t7 A7) (hb : F.mb < base) : VRow base t7 A7 w' v vs :=
 ⟨(h.keep hk hb).own, h.vi, fun g hg => Far.of_tn (h.far g hg) ht (h.own.lt g hg).2⟩
theorem VRow.valsS {A : Option Addr} {n c : Nat} (h : VRow base t At w (.slice A n c) vs) (hb : F.mb < base) : ValsS F w A vs := fun _ hW => (h.keep hW hb).lies
theorem VRow.push {w9 : World} {v' : Value} {u : V} (h : VRow base t At w v vs) (ho : w9.ownsRow base 69 2 v' (vs.length + 1) (flatV vv vs ++ vv u)) (hu : VI u) (hat : v'.ownBlock = v.ownBlock ∨ v'.ownBlock = some w.heap.size) (hn : Far w.heap.size t At) : VRow base t At w9 v' (vs ++ [u]) := by
 refine ⟨by rw [List.length_append, flatV_snoc]; exact ho, fun x hx => ?_, fun g hg => ?_⟩
 ·rcases List.mem_append.1 hx with hx | hx
  ·exact h.vi x hx
  ·obtain rfl : x = u := by simpa using hx
   exact hu
 ·rcases hat with e | e
  ·exact h.far g (e ▸ hg)
  ·rw [e] at hg; cases hg; exact hn
theorem Mid.grown {known : Int} {w0 W W9 : World} {t0 : List Node} {At0 : Option Addr} {rb : Nat} {st' : St} {A' : Option Addr} {c' : Nat} (hF : FixOk F) (h : Mid F known w0 t0 At0 rb W st' A' c') (hr : VRow base st'.t A' W v vs) (hg : W.grownBy W9 v.ownBlock) (hb : rb < base) : Mid F known w0 t0 At0 rb W9 st' A' c' := by
 have hle := h.le
 have hlt := h.lt
 have hk : Keeps (fun k => v.ownBlock = some k) W W9 := (Keeps.refl _ W).grown hg (fun j hj => .inl hj)
 refine ⟨h.maker.same hk (fun e => by have := (hr.own.lt _ e).1; omega) (fun hn b o e hb => hr.far b hb hn b o e rfl) (fun k e => by have := (hr.own.lt k e).1; have := hF.lt; omega), ?_, h.tn, h.far, (hk.block rb h.size (fun e => by have := (hr.own.lt _ e).1; omega)).trans h.cell, h.lt, h.le⟩
 exact h.keeps.grown hg (fun j hj => .inr (by have := (hr.own.lt j hj).1; omega))
theorem val_cells {W : World} {b : Nat} {u : V} (h : W.heap[b]? = some (.cells #[.int .i64 u.1, .int .i64 u.2] 69 (0, 0))) : Cells W (some ⟨b, 0, none⟩) (vv u) := by
 obtain ⟨c0, c1, _⟩ := Bk.c2 h
 refine .inr ⟨b, 0, rfl, lt_of_block h, fun j x hx => ?_⟩
 match j, hx with
 | 0, hx => cases hx; exact c0
 | 1, hx => cases hx; exact c1
 | j + 2, hx => simp [vv] at hx
theorem push_val {ops : Array Oper} {rest : List Oper} {o : Oper} {a : Act} {Q : Exit → Act → World → Prop} (hgd : o.guard = none) (s x : Operand) (ho : o.op = .call { callee := .builtin .append, args := #[s, x], argTypes := #[126, 126] })
  {Ao : Option Addr} {co b : Nat} {u : V} (hs : a.eval s = .slice Ao vs.length co) (h : VRow base t At w (.slice Ao vs.length co) vs) (hx : a.eval x = .slice (some ⟨b, 0, none⟩) 1 1) (hb : w.heap[b]? = some (.cells #[.int .i64 u.1, .int .i64 u.2] 69 (0, 0))) (hu : VI u) (hlen : vs.length < 8000000000000) (hbase : base ≤ w.heap.size) (hn : Far w.heap.size t At)
  (hK : ∀ A9 c9 w9, VRow base t At w9 (.slice A9 (vs.length + 1) c9) (vs ++ [u]) → w.grownBy w9 (Value.slice Ao vs.length co).ownBlock → (∀ g, (Value.slice A9 (vs.length + 1) c9).ownBlock = some g → (Value.slice Ao vs.length co).ownBlock = some g ∨ g = w.heap.size) → wpList Tryz.prog ops Q rest (a.put o.dst (.slice A9 (vs.length + 1) c9)) w9) : wpList Tryz.prog ops Q (o :: rest) a w := by
 obtain ⟨i0, hi0, z0, z1, z2⟩ := info_parts info_val
 refine wpList_append_at hgd s x _ ho base 69 i0 (.agg #[.int .i64 0, .int .i64 0]) 2 16 Tryz.underlying126 hi0 z0 z1 z2 rfl (by decide) (.slice Ao vs.length co) vs.length (flatV vv vs) hs h.own (some ⟨b, 0, none⟩) 1 1 (vv u) hx rfl (val_cells hb) (by simp [vv, Value.oneCell']) (by unfold maxLen; omega) (by omega) hbase ?_
 intro v' w9 hown hgr hat
 have hp := h.push hown hu hat hn
 obtain ⟨A9, c9, hv, _, _⟩ := hp.shape
 rw [List.length_append] at hv
 subst hv
 refine hK A9 c9 w9 hp hgr (fun g hg => ?_)
 rcases (show (Value.slice A9 (vs.length + 1) c9).ownBlock = (Value.slice Ao vs.length co).ownBlock ∨ (Value.slice A9 (vs.length + 1) c9).ownBlock = some w.heap.size from hat) with e | e
 ·exact .inl (e ▸ hg)
 ·rw [e] at hg; cases hg; exact .inr rfl
theorem push_step {ops : Array Oper} {o : Oper} {a : Act} {K : Act → World → Prop} {Q : Exit → Act → World → Prop} {E : Prop} (hgd : o.guard = none) (s x : Operand) (ho : o.op = .call { callee := .builtin .append, args := #[s, x], argTypes := #[126, 126] })
  {Ao : Option Addr} {co b : Nat} {u : V} (hs : a.eval s = .slice Ao vs.length co) (h : VRow base t At w (.slice Ao vs.length co) vs) (hx : a.eval x = .slice (some ⟨b, 0, none⟩) 1 1) (hb : w.heap[b]? = some (.cells #[.int .i64 u.1, .int .i64 u.2] 69 (0, 0))) (hu : VI u) (hlen : vs.length < 8000000000000) (hbase : base ≤ w.heap.size) (hn : Far w.heap.size t At)
  (hK : ∀ A9 c9 w9, VRow base t At w9 (.slice A9 (vs.length + 1) c9) (vs ++ [u]) → w.grownBy w9 (Value.slice Ao vs.length co).ownBlock → (∀ g, (Value.slice A9 (vs.length + 1) c9).ownBlock = some g → (Value.slice Ao vs.length co).ownBlock = some g ∨ g = w.heap.size) → K (a.put o.dst (.slice A9 (vs.length + 1) c9)) w9) :
  if Region.wanted o (yielded ops a.tmps) = true then Oper.wp Tryz.prog o a w K Q else E := by
 obtain ⟨i0, hi0, z0, z1, z2⟩ := info_parts info_val
 refine step_append_at hgd s x _ ho base 69 i0 (.agg #[.int .i64 0, .int .i64 0]) 2 16 Tryz.underlying126 hi0 z0 z1 z2 rfl (by decide) (.slice Ao vs.length co) vs.length (flatV vv vs) hs h.own (some ⟨b, 0, none⟩) 1 1 (vv u) hx rfl (val_cells hb) (by simp [vv, Value.oneCell']) (by unfold maxLen; omega) (by omega) hbase ?_
 intro v' w9 hown hgr hat
 have hp := h.push hown hu hat hn
 obtain ⟨A9, c9, hv, _, _⟩ := hp.shape
 rw [List.length_append] at hv
 subst hv
 refine hK A9 c9 w9 hp hgr (fun g hg => ?_)
 rcases (show (Value.slice A9 (vs.length + 1) c9).ownBlock = (Value.slice Ao vs.length co).ownBlock ∨ (Value.slice A9 (vs.length + 1) c9).ownBlock = some w.heap.size from hat) with e | e
 ·exact .inl (e ▸ hg)
 ·rw [e] at hg; cases hg; exact .inr rfl
def ValsN (base : Nat) (w : World) (L : Option Addr) (vs : List V) : Prop := ∀ W, w.heap.size ≤ W.heap.size → SameIn base w.heap.size w W → Lies 2 ValR W L vs
theorem ValsN.now {L : Option Addr} (h : ValsN base w L vs) : Lies 2 ValR w L vs := h w (Nat.le_refl _) (SameIn.refl _ _ _)
theorem ValsN.on {L : Option Addr} (h : ValsN base w L vs) (hz : w.heap.size ≤ w'.heap.size) (hs : SameIn base w.heap.size w w') : ValsN base w' L vs := fun W hW hS => h W (Nat.le_trans hz hW) (hs.trans (hS.part (Nat.le_refl _) hz))
theorem ValsN.keep {L : Option Addr} (h : ValsN base w L vs) (hk : Keeps (onMb F) w w') (hb : F.mb < base) : ValsN base w' L vs := h.on hk.size (SameIn.keeps hk (Nat.le_refl _) (fun b a _ hs => by unfold onMb at hs; omega))
theorem ValsN.below {L : Option Addr} (h : ValsN base w L vs) (hb : Below w.heap.size w w') : ValsN base w' L vs := h.on hb.size (SameIn.of_below hb (Nat.le_refl _))
theorem ValsN.set {L : Option Addr} (h : ValsN base w L vs) {p : Addr} (u : Value) (hp : p.block < base) : ValsN base (w.setCell p u) L vs := h.on (by simp [World.setCell]) (SameIn.setCell _ _ _ _ _ (.inl hp))
theorem ValsN.valsS {L : Option Addr} (h : ValsN base w L vs) (hb : F.mb < base) : ValsS F w L vs := fun _ hW => (h.keep hW hb).now
theorem VRow.valsN {A : Option Addr} {n c : Nat} (h : VRow base t At w (.slice A n c) vs) : ValsN base w A vs := by
 intro W hz hS
 refine VRow.lies (base := base) (t := t) (At := At) (k := n) (c := c) ⟨?_, h.vi, h.far⟩
 refine ⟨h.own.1, ?_⟩
 rcases h.own.2 with h1 | ⟨g, cap, cur, h1, hg, hat, h2⟩
 ·exact .inl h1
 ·exact .inr ⟨g, cap, cur, h1, hg, (hS g hg (lt_of_block hat)).trans hat, h2⟩
end
end Go.Proofs.YtpmdcckapddchaaGreat.El
/- A list of terms, if each is told of. -/
namespace Go.Proofs.YtpmdcckapddchaaGreat.El
open Go.RowKit Go.Maps Go.Proofs.YtpmdcckapddchaaGreat.Dt Go.Proofs.YtpmdcckapddchaaGreat.Sg

def TermC (F : Fix) (known : Nat) (x : Sexp) : Prop := ∀ {w : World} {st : St} {At : Option Addr} {ct : Nat} {A : Option Addr} {c : Nat} {p : Option Addr} {env : Env}, Mk F w known st At ct → XAt F.W0 A c x → EnvS F w p env →
 Calls Tryz.prog 29 #[.pointer (some ⟨F.mb, 0, none⟩), .agg #[.int .i8 x.kind, .string x.text, .slice A x.l.length c], .pointer p] w (MkPost F known w st.t At (termP F.c known x env st).1 (termP F.c known x env st).2)
def AllPost (F : Fix) (known : Int) (w : World) (t : List Node) (At : Option Addr) (vs : List V) (st' : St) (e : Ending) (w' : World) : Prop :=
 ∃ L cl, e = .returned (.slice L vs.length cl) ∧ vs.length ≤ cl ∧ cl ≤ maxLen ∧ ValsN w.heap.size w' L vs ∧ Keeps (onMb F) w w' ∧ ∃ A' c', Mk F w' known st' A' c' ∧ TN w.heap.size t At st'.t A'
theorem allM_len (r : Sexp → St → V × St) : ∀ (l : List Sexp) (st : St), (allM r l st).1.length = l.length
 | [], _ => rfl
 | x :: l, st => by unfold allM; simp [allM_len r l]
theorem xs_get {W0 : World} {A : Option Addr} {l : List Sexp} (h : Lies 3 SexpR W0 A l) {k : Nat} {y : Sexp} (hy : l[k]? = some y) : ∃ b o A' c', A = some ⟨b, o, none⟩ ∧ XAt W0 A' c' y ∧
  ∀ W, Below W0.heap.size W0 W → W.cell? ⟨b, o + k * 3, none⟩ = some (.int .i8 y.kind) ∧ W.cell? ⟨b, o + k * 3 + 1, none⟩ = some (.string y.text) ∧ W.cell? ⟨b, o + k * 3 + 2, none⟩ = some (.slice A' y.l.length c') := by
 obtain ⟨b, o, A', c', rfl, hbl, e0, e1, e2, hr⟩ := sexp_cells h hy
 exact ⟨b, o, A', c', rfl, hr, fun W hW => ⟨(hW.cell (p := ⟨b, _, none⟩) hbl).trans e0, (hW.cell (p := ⟨b, _, none⟩) hbl).trans e1, (hW.cell (p := ⟨b, _, none⟩) hbl).trans e2⟩⟩
set_option maxRecDepth 100000 in
set_option maxHeartbeats 6400000 in
theorem all_any {F : Fix} (hF : FixOk F) {known : Nat} {l : List Sexp} (hT : ∀ y ∈ l, TermC F known y) {w : World} {st : St} {At : Option Addr} {ct : Nat} (hm : Mk F w known st At ct) {A : Option Addr} (c : Nat) (hl : Lies 3 SexpR F.W0 A l) (hll : l.length ≤ 3000000) {p : Option Addr} {env : Env} (he : EnvS F w p env) :
  Calls Tryz.prog 82 #[.pointer (some ⟨F.mb, 0, none⟩), .slice A l.length c, .pointer p] w (AllPost F known w st.t At (allM (fun y => termP F.c known y env) l st).1 (allM (fun y => termP F.c known y env) l st).2) := by
 have HT := kp hT
 have HL := kp hl
 have HE := kp he
 have hlt := hm.lt
 have HW0 := kp hm.below
 generalize hr : (fun y => termP F.c known y env) = r
 have HRf := kp (fun y s => show termP F.c known y env s = r y s by rw [← hr])
 clear hr hT hl he
 have HS := kp (show allM r l st = ([] ++ (allM r (l.drop 0) st).1, (allM r (l.drop 0) st).2) by simp)
 have HLn := kp (allM_len r l st)
 generalize hres : allM r l st = res at *
 clear hres
 have M0 := kp hm
 clear hm
 go_enter Tryz.func82, Tryz.ntmps82
 go_wp2_with fail
 go_loopw [6, 11] (fun v' i' wr => ∃ (k : Nat) (vs : List V) (st' : St) (A' : Option Addr) (c' : Nat), k ≤ l.length ∧ i' = .int .i64 k ∧ vs.length = k ∧ res = (vs ++ (allM r (l.drop k) st').1, (allM r (l.drop k) st').2) ∧ VRow w.heap.size st'.t A' wr v' vs ∧ Mk F wr known st' A' c' ∧ Keeps (onMb F) w wr ∧ TN w.heap.size st.t At st'.t A') (fun _ i' _ => l.length - (intOf i').toNat)
 case atStart => exact ⟨0, [], st, At, ct, Nat.zero_le _, rfl, rfl, HS.out, VRow.nil _ _ _ _, M0.out, Keeps.refl _ _, TN.refl _ _ _⟩
 case round =>
  obtain ⟨k, vs, st', A', c', hk, rfl, hvl, hres, hrow, hmk, hkp, htn⟩ := hrel
  have HRes := kp hres
  have HRow := kp hrow
  have MR := kp hmk
  have KR := kp hkp
  have TR := kp htn
  obtain ⟨Ao, co, rfl, _, _⟩ := hrow.shape
  clear hres hrow hmk hkp htn
  by_cases hkl : k < l.length
  ·have hlt2 : (k : Int) < (l.length : Int) := by omega
   obtain ⟨y, hy⟩ : ∃ y, l[k]? = some y := ⟨_, List.getElem?_eq_getElem hkl⟩
   have HDr := kp (show l.drop k = y :: l.drop (k + 1) by
    rw [List.drop_eq_getElem_cons hkl]
    rw [List.getElem?_eq_getElem hkl] at hy
    simp at hy
    rw [hy])
   rw [HDr.out] at HRes
   replace HRes := kp (show res = (vs ++ ((r y st').1 :: (allM r (l.drop (k + 1)) (r y st').2).1), (allM r (l.drop (k + 1)) (r y st').2).2) from HRes.out)
   obtain ⟨b, o, Ay, cy, rfl, hx, hcells⟩ := xs_get HL.out hy
   obtain ⟨e0, e1, e2⟩ := hcells wr MR.out.below
   have BA := kp ((Below.refl wr.heap.size wr).alloc (Nat.le_refl _) (.cells #[.int .i8 y.kind, .string y.text, .slice Ay y.l.length cy] 30))
   have YA := kp (Bk.new wr (.cells #[.int .i8 y.kind, .string y.text, .slice Ay y.l.length cy] 30))
   have HC := kp (HT.out y (List.mem_of_getElem? hy) (MR.out.keep BA.out) hx (HE.out.on (KR.out.trans_same (Keeps.of_below BA.out _))))
   rw [HRf.out] at HC
   generalize r y st' = pr at *
   obtain ⟨pv, ps⟩ := pr
   have RA := kp (HRow.out.below BA.out)
   have KA := kp (KR.out.trans_same (Keeps.of_below BA.out _))
   clear hx hcells hy HDr
   go_upto_region 4 with fail
   generalize hwa : wr.alloc (.cells #[.int .i8 y.kind, .string y.text, .slice Ay y.l.length cy] 30) = wa at *
   clear hwa e0 e1 e2
   obtain ⟨y0, y1, y2, yf⟩ := Bk.c3 YA.out
   go_wp2_with fail
   refine HC.out.mono ?_
   rintro e w7 ⟨rfl, hv, hk7, A7, c7, hm7, ht7⟩
   have R7 := kp (RA.out.call hk7 ht7 hlt)
   have M7 := kp hm7
   have K7 := kp (KA.out.trans_same hk7)
   have T7 := kp (TR.out.trans ht7 KA.out.size)
   have HPv := kp hv
   unfold valV
   clear hk7 hm7 ht7 hv y0 y1 y2 yf
   have BB := kp ((Below.refl w7.heap.size w7).alloc (Nat.le_refl _) (.cells #[.int .i64 pv.1, .int .i64 pv.2] 69))
   have R8 := kp (R7.out.below BB.out)
   have M8 := kp (M7.out.keep BB.out)
   have K8 := kp (K7.out.trans_same (Keeps.of_below BB.out _))
   have N8 := kp (Bk.new w7 (.cells #[.int .i64 pv.1, .int .i64 pv.2] 69))
   subst hvl
   go_wp2_with (at_builtin; refine push_val rfl (.tmp 15) (.tmp 20) rfl rfl R8.out rfl N8.out HPv.out (by omega) K8.out.size (M8.out.new_far (Nat.le_refl _)) ?_)
   intro A9 c9 w9 hp9 hg9 _
   have hk9 : Keeps (fun k => (Value.slice Ao vs.length co).ownBlock = some k) _ w9 := (Keeps.refl _ _).grown hg9 (fun j hj => .inl hj)
   have R9 := kp hp9
   have M9 := kp (M8.out.same hk9 (fun e => by have := (R8.out.own.lt _ e).1; omega) (fun hn b o e hb => R8.out.far b hb hn b o e rfl) (fun k e => by have := (R8.out.own.lt k e).1; have := hF.lt; omega))
   have K9 := kp (K8.out.grown hg9 (fun j hj => .inr (R8.out.own.lt j hj).1))
   clear hp9 hg9 hk9
   go_wp2_with fail
   go_roundw
   case rel => exact ⟨vs.length + 1, vs ++ [pv], ps, A7, c7, by omega, by go_num, by simp, by rw [HRes.out]; simp, R9.out, M9.out, K9.out, T7.out⟩
   case measure => simp [intOf]; omega
  ·obtain rfl : k = l.length := by omega
   replace HRes := kp (show res = (vs, st') by rw [HRes.out, List.drop_length]; simp [allM])
   go_wp2_with fail
   go_ret
   have hsh := HRow.out.shape
   exact ⟨Ao, co, by rw [HRes.out]; rfl, by rw [HRes.out]; obtain ⟨A1, c1, e1, h1, h2⟩ := hsh; cases e1; exact h1, by obtain ⟨A1, c1, e1, h1, h2⟩ := hsh; cases e1; exact h2, by rw [HRes.out]; exact HRow.out.valsN, KR.out, A', c', by rw [HRes.out]; exact MR.out, by rw [HRes.out]; exact TR.out⟩
end Go.Proofs.YtpmdcckapddchaaGreat.El
