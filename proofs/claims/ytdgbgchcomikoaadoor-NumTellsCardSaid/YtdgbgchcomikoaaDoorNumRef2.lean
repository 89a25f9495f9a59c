/- The walks of layer 1's reference of Text. -/
import Derived.Test.YtdgbgchcomikoaaDoorNumRef
namespace Go.Proofs.YtdgbgchcomikoaaDoor
open Go.RowKit

/-- one letter as a string -/
theorem conv_one (w : World) (c : Nat) (hc : c < 256) : (convert 41 9 (.slice (some ⟨w.heap.size, 0, none⟩) 1 1)).run Tryd.prog (w.alloc (.cells #[.int .u8 (c : Int)] 5)) =
    .ok (.string ⟨[UInt8.ofNat c].toArray⟩) (w.alloc (.cells #[.int .u8 (c : Int)] 5)) := by
  refine run_convert_bytes_back (P := Tryd.prog) (w.alloc (.cells #[.int .u8 (c : Int)] 5)) 41 9 5 ⟨w.heap.size, 0, none⟩ 1 [UInt8.ofNat c] Tryd.underlying41 Tryd.underlying5 Tryd.underlying9 ?_
  intro j hj
  have h0 : j = 0 := by simpa using hj
  subst h0
  rw [addr_add0, World.cell?_alloc_at _ _ _ _ rfl]
  simp only [List.getElem_cons_zero, UInt8.toNat_ofNat']
  rw [Nat.mod_eq_of_lt hc]; rfl

theorem digits_last {m : Nat} (h : m / 10 = 0) : Lib.decDigits m = [UInt8.ofNat (48 + m % 10)] := by
  have : m < 10 := by omega
  rw [Lib.decDigits_one this, Nat.mod_eq_of_lt this]
theorem digits_more {m : Nat} (h : m / 10 ≠ 0) : Lib.decDigits m = Lib.decDigits (m / 10) ++ [UInt8.ofNat (48 + m % 10)] := by
  rw [Lib.decDigits, dif_neg (by omega)]
theorem str_add (c : UInt8) (l : List UInt8) : (ByteArray.mk [c].toArray ++ ByteArray.mk l.toArray) = ByteArray.mk (c :: l).toArray := by
  rw [ByteArray.mk_append_mk]; rfl
theorem str_congr {a b : List UInt8} (h : a = b) : ByteArray.mk a.toArray = ByteArray.mk b.toArray := by rw [h]
theorem digits_len {n : Nat} (hn : (n : Int) ≤ 4611686018427387904) : (Lib.decDigits n).length ≤ 21 := by
  rw [← Lib.itoa_nonneg]; exact Lib.itoa_length_le _ (by omega) (by omega)

set_option maxHeartbeats 800000 in
theorem rtext_pos (n : Nat) (hn : (n : Int) ≤ 4611686018427387904) (w : World) :
    Calls Tryd.prog 18 #[.int .i64 n] w fun e w' => e = .returned (.tuple #[.string ⟨(textL n).toArray⟩, .int .i64 (textE n)]) ∧ Below w.heap.size w w' := by
  have hm : mayB n = true := by rw [mayB_iff]; omega
  have HX := Lib.hid (text_pos hm (by omega))
  have HM := Lib.hid hm
  clear hm
  go_enter Tryd.func18, Tryd.ntmps18
  go_wp2_with (go_at_call 20; refine (rmay_any _ _).mono ?_; rw [HM.out]; rintro e w' ⟨rfl, rfl⟩)
  go_loopw [0, 6] (fun x t wr => ∃ (m : Nat) (l : List UInt8), m ≤ n ∧ x = .int .i64 m ∧ t = .string ⟨l.toArray⟩ ∧ Lib.decDigits n = Lib.decDigits m ++ l ∧ Below w.heap.size w wr) (fun x _ _ => (intOf x).toNat)
  case atStart => exact ⟨n, [], Nat.le_refl _, rfl, rfl, by simp, Below.refl _ _⟩
  case round =>
    obtain ⟨m, l, hm, rfl, rfl, hd, hb⟩ := hrel
    have hc := conv_one wr (48 + m % 10) (by omega)
    have hl : l.length ≤ 21 := by
      have h1 := digits_len hn
      rw [hd, List.length_append] at h1; omega
    have HD := Lib.hid hd
    have HB := Lib.hid hb
    clear hd hb
    rw [show ((48 + m % 10 : Nat) : Int) = 48 + (m : Int) % 10 by omega] at hc
    generalize hcd : UInt8.ofNat (48 + m % 10) = c at hc
    by_cases h0 : m / 10 = 0
    · have HL := Lib.hid ((digits_last h0).trans (by rw [hcd]))
      have h9 : m < 10 := by omega
      clear h0 hcd
      go_wp2_with fail
      go_ret2
      have hx := HX.out
      refine ⟨pair_str_int ⟨?_, hx.2.symm⟩, ?_⟩
      · rw [str_add, hx.1, Lib.itoa_nonneg, HD.out, HL.out]; rfl
      · exact HB.out.alloc HB.out.size _
    · have HL := Lib.hid ((digits_more h0).trans (by rw [hcd]))
      have h9 : ((m : Int) / 10 == 0) = false := by rw [beq_eq_false_iff_ne]; omega
      have h10 : 10 ≤ m := by omega
      clear h0 hcd
      go_wp2_with fail
      go_roundw
      case rel =>
        refine ⟨m / 10, c :: l, by omega, by go_num, ?_, ?_, HB.out.alloc HB.out.size _⟩
        · exact congrArg Value.string (str_add c l)
        · rw [HD.out, HL.out]; simp
      case measure => simp [intOf]; omega

set_option maxHeartbeats 800000 in
theorem rtext_any (n : Int) (hn : I64 n) (w : World) :
    Calls Tryd.prog 18 #[.int .i64 n] w fun e w' => e = .returned (.tuple #[.string ⟨(textL n).toArray⟩, .int .i64 (textE n)]) ∧ Below w.heap.size w w' := by
  cases hm : mayB n with
  | true =>
    have hb := mayB_iff.1 hm
    obtain ⟨hb0, hb1⟩ := hb
    by_cases h0 : n < 0
    · have HX := Lib.hid (text_neg hm h0)
      have HM := Lib.hid hm
      clear hm
      have hrec := rtext_pos (-n).toNat (by omega) w
      rw [show (((-n).toNat : Nat) : Int) = -n by omega] at hrec
      have hp := text_pos (n := -n) (by rw [mayB_iff]; omega) (by omega)
      rw [hp.1, hp.2] at hrec
      have HR := Lib.hid hrec
      clear hrec hp
      go_enter Tryd.func18, Tryd.ntmps18
      go_wp2_with (go_at_call 20; refine (rmay_any _ _).mono ?_; rw [HM.out]; rintro e w' ⟨rfl, rfl⟩)
      refine HR.out.mono ?_
      rintro e w1 ⟨rfl, hb⟩
      have HB := Lib.hid hb
      clear hb
      have hlen := Lib.itoa_length_le (-n) (by omega) (by omega)
      generalize Lib.itoa (-n) = L at *
      go_wp2_with fail
      have hx := HX.out
      go_ret2
      exact ⟨pair_str_int ⟨by rw [hx.1]; show ByteArray.mk [40, 45, 32].toArray ++ ByteArray.mk L.toArray ++ ByteArray.mk [41].toArray = _; rw [ByteArray.mk_append_mk, ByteArray.mk_append_mk], hx.2.symm⟩, HB.out⟩
    · obtain ⟨k, rfl⟩ := Int.eq_ofNat_of_zero_le (show 0 ≤ n by omega)
      exact rtext_pos k hb1 w
  | false =>
    have HX := Lib.hid (text_no hm)
    have HM := Lib.hid hm
    clear hm
    go_enter Tryd.func18, Tryd.ntmps18
    go_wp2_with (go_at_call 20; refine (rmay_any _ _).mono ?_; rw [HM.out]; rintro e w' ⟨rfl, rfl⟩)
    have hx := HX.out
    go_ret2
    exact ⟨pair_str_int ⟨by rw [hx.1], hx.2.symm⟩, Below.refl _ _⟩
end Go.Proofs.YtdgbgchcomikoaaDoor
