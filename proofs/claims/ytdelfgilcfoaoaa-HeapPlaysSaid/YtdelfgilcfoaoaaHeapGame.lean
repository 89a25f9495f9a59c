/- What HeapPlays asks of two heaps that are played alike: the contracts, whatever stands behind them; those of nil, and those of two that are there. -/
import Derived.Test.YtdelfgilcfoaoaaHeapRef3
namespace Go.Proofs.Ytdelfgilcfoaoaa.Hp
open Go.RowKit

theorem quiet_left {P : Program} {f : FuncId} {args : Array Value} {w : World} {n : Nat} {v : Value}
    (h : Calls P f args (w.drewN n) fun e w' => e = .returned v ∧ w.drewN n = w') : Calls P f args (w.drewN n) fun e w'' => e = .returned v ∧ ∃ m, w'' = w.drewN m :=
  h.mono fun _ _ ⟨he, hm⟩ => ⟨he, n, hm.symm⟩

/-- what a state tells -/
structure Tells (σ : Type) where
  fput : σ → Int → Int
  sput : σ → Int → σ
  fbump : σ → Int → Int → Int
  sbump : σ → Int → Int → σ
  shalve : σ → σ
  kpop : σ → Int
  bpop : σ → Bool
  spop : σ → σ
  flen : σ → Nat
  fact : σ → Int → Int
  fhas : σ → Int → Bool
  fsort : σ → List Nat

def ints (l : List Nat) : List Value := l.map fun k => .int .i64 ((k : Nat) : Int)

/-- two heaps, the program's and the document's -/
structure Game {σ : Type} (T : Tells σ) (B : Nat) (hv gv : Option Addr) (P : (Nat → Prop) → σ → σ → World → Prop) : Prop where
  low : ∀ {F s t w}, P F s t w → ∀ k, F k → B ≤ k ∧ k < w.heap.size
  size : ∀ {F s t w}, P F s t w → B ≤ w.heap.size
  keep : ∀ {F S s t w w'}, P F s t w → Keeps S w w' → (∀ k, F k → ¬ S k) → P F s t w'
  put1 : ∀ {F s t w} i, P F s t w → Calls Try.prog 14 #[.pointer hv, .int .i64 i] w fun e w' => e = .returned (.int .i64 (T.fput s i)) ∧ P (more F w w') (T.sput s i) t w' ∧ Keeps F w w'
  put2 : ∀ {F s t w} i, P F s t w → Calls Try.prog 19 #[.pointer gv, .int .i64 i] w fun e w' => e = .returned (.int .i64 (T.fput t i)) ∧ P (more F w w') s (T.sput t i) w' ∧ Keeps F w w'
  bump1 : ∀ {F s t w} i d, P F s t w → Calls Try.prog 15 #[.pointer hv, .int .i64 i, .int .i64 d] w fun e w' => e = .returned (.int .i64 (T.fbump s i d)) ∧ P (more F w w') (T.sbump s i d) t w' ∧ Keeps F w w'
  bump2 : ∀ {F s t w} i d, P F s t w → Calls Try.prog 21 #[.pointer gv, .int .i64 i, .int .i64 d] w fun e w' => e = .returned (.int .i64 (T.fbump t i d)) ∧ P (more F w w') s (T.sbump t i d) w' ∧ Keeps F w w'
  pop1 : ∀ {F s t w}, P F s t w → Calls Try.prog 16 #[.pointer hv] w fun e w' => e = .returned (.tuple #[.int .i64 (T.kpop s), .bool (T.bpop s)]) ∧ P (more F w w') (T.spop s) t w' ∧ Keeps F w w'
  pop2 : ∀ {F s t w}, P F s t w → Calls Try.prog 20 #[.pointer gv] w fun e w' => e = .returned (.tuple #[.int .i64 (T.kpop t), .bool (T.bpop t)]) ∧ P (more F w w') s (T.spop t) w' ∧ Keeps F w w'
  halve1 : ∀ {F s t w}, P F s t w → Calls Try.prog 13 #[.pointer hv] w fun e w' => e = .returned (.tuple #[]) ∧ P F (T.shalve s) t w' ∧ Keeps F w w'
  halve2 : ∀ {F s t w}, P F s t w → Calls Try.prog 22 #[.pointer gv] w fun e w' => e = .returned (.tuple #[]) ∧ P (more F w w') s (T.shalve t) w' ∧ Keeps F w w'
  len1 : ∀ {F s t w}, P F s t w → Calls Try.prog 10 #[.pointer hv] w fun e w' => e = .returned (.int .i64 (T.flen s)) ∧ w = w'
  len2 : ∀ {F s t w}, P F s t w → Calls Try.prog 23 #[.pointer gv] w fun e w' => e = .returned (.int .i64 (T.flen t)) ∧ w = w'
  act1 : ∀ {F s t w} i, P F s t w → Calls Try.prog 11 #[.pointer hv, .int .i64 i] w fun e w' => e = .returned (.int .i64 (T.fact s i)) ∧ w = w'
  act2 : ∀ {F s t w} i, P F s t w → Calls Try.prog 24 #[.pointer gv, .int .i64 i] w fun e w' => e = .returned (.int .i64 (T.fact t i)) ∧ w = w'
  has1 : ∀ {F s t w} i, P F s t w → Calls Try.prog 12 #[.pointer hv, .int .i64 i] w fun e w' => e = .returned (.bool (T.fhas s i)) ∧ w = w'
  has2 : ∀ {F s t w} i, P F s t w → Calls Try.prog 25 #[.pointer gv, .int .i64 i] w fun e w' => e = .returned (.bool (T.fhas t i)) ∧ w = w'
  sort1 : ∀ {F s t w}, P F s t w → Calls Try.prog 27 #[.pointer hv] w fun e w' => ∃ A c, e = .returned (.slice A (T.fsort s).length c) ∧ Cells w' A (ints (T.fsort s)) ∧ Below w.heap.size w w'
  sort2 : ∀ {F s t w}, P F s t w → Calls Try.prog 28 #[.pointer gv] w fun e w' => ∃ A c, e = .returned (.slice A (T.fsort t).length c) ∧ Cells w' A (ints (T.fsort t)) ∧ Below w.heap.size w w'
  short : ∀ {F s t w}, P F s t w → (T.fsort s).length ≤ 65536

/- nil -/
def nilTells : Tells Unit := { fput := fun _ _ => 3, sput := fun _ _ => (), fbump := fun _ _ _ => 3, sbump := fun _ _ _ => (), shalve := fun _ => (), kpop := fun _ => 0, bpop := fun _ => false, spop := fun _ => (), flen := fun _ => 0, fact := fun _ _ => 0, fhas := fun _ _ => false, fsort := fun _ => [] }
def NilAt (B : Nat) (F : Nat → Prop) (_ _ : Unit) (w : World) : Prop := (∀ k, ¬ F k) ∧ B ≤ w.heap.size
theorem nil_step {B : Nat} {P : Program} {f : FuncId} {args : Array Value} {F : Nat → Prop} {w : World} {v : Value} (h : NilAt B F () () w) (hc : Calls P f args w fun e w' => e = .returned v ∧ w = w') :
    Calls P f args w fun e w' => e = .returned v ∧ NilAt B (more F w w') () () w' ∧ Keeps F w w' :=
  hc.mono fun _ _ ⟨he, hw⟩ => by subst hw; exact ⟨he, ⟨fun k hk => hk.elim (h.1 k) (fun h2 => by omega), h.2⟩, Keeps.refl _ _⟩
theorem nil_keeps {B : Nat} {P : Program} {f : FuncId} {args : Array Value} {F : Nat → Prop} {w : World} {v : Value} (h : NilAt B F () () w) (hc : Calls P f args w fun e w' => e = .returned v ∧ Keeps (fun _ => False) w w') :
    Calls P f args w fun e w' => e = .returned v ∧ NilAt B F () () w' ∧ Keeps F w w' :=
  hc.mono fun _ _ ⟨he, hw⟩ => ⟨he, ⟨h.1, Nat.le_trans h.2 hw.size⟩, hw.mono fun _ h => h.elim⟩
theorem nil_sort {P : Program} {f : FuncId} {args : Array Value} {w : World} (hc : Calls P f args w fun e w' => e = .returned (.slice none 0 0) ∧ w = w') :
    Calls P f args w fun e w' => ∃ A c, e = .returned (.slice A 0 c) ∧ Cells w' A (ints []) ∧ Below w.heap.size w w' :=
  hc.mono fun _ _ ⟨he, hw⟩ => by subst hw; exact ⟨none, 0, he, .inl rfl, Below.refl _ _⟩
theorem nil_game (B : Nat) : Game nilTells B none none (NilAt B) where
  low h k hk := absurd hk (h.1 k)
  size h := h.2
  keep h hk _ := ⟨h.1, Nat.le_trans h.2 hk.size⟩
  put1 i h := nil_step h (put_nil i _)
  put2 i h := nil_step h (rput_nil i _)
  bump1 i d h := nil_step h (bump_nil i d _)
  bump2 i d h := nil_step h (rbump_nil i d _)
  pop1 h := nil_step h (pop_nil _)
  pop2 h := nil_step h (rpop_nil _)
  halve1 h := nil_keeps h (halve_nil _)
  halve2 h := nil_step h (rhalve_nil _)
  len1 _ := len_nil _
  len2 _ := rlen_nil _
  act1 i _ := act_nil i _
  act2 i _ := ract_nil i _
  has1 i _ := hasB_nil i _
  has2 i _ := rhas_nil i _
  sort1 _ := nil_sort (sorted_nil _)
  sort2 _ := nil_sort (rsorted_nil _)
  short _ := Nat.zero_le _

/- two that are there -/
open Classical in
noncomputable def popK (a : Ab) : Int := if h : ∃ k, First a k then (h.choose : Int) else 0
open Classical in
noncomputable def popB (a : Ab) : Bool := if ∃ k, First a k then true else false
theorem PopE.told {a : Ab} {e : Ending} (h : PopE a e) : e = .returned (.tuple #[.int .i64 (popK a), .bool (popB a)]) := by
  rcases h with ⟨k, hk, rfl⟩ | ⟨he, rfl⟩
  · have hx : ∃ k, First a k := ⟨k, hk⟩
    unfold popK popB
    rw [dif_pos hx, if_pos hx, (Exists.choose_spec hx).unique hk]
  · have hx : ¬ ∃ k, First a k := fun ⟨k, hk⟩ => he.no_first hk
    unfold popK popB
    rw [dif_neg hx, if_neg hx]
open Classical in
noncomputable def sortL (a : Ab) : List Nat := if h : ∃ l, Sorted a l then h.choose else []
theorem sortL_of {a : Ab} {l : List Nat} (h : Sorted a l) : sortL a = l := by
  have hx : ∃ l, Sorted a l := ⟨l, h⟩
  unfold sortL
  rw [dif_pos hx]
  exact (Exists.choose_spec hx).unique (Ab.Eq.refl a) h
noncomputable def abTells : Tells Ab := { fput := putE, sput := putA, fbump := bumpE, sbump := bumpA, shalve := Ab.halve, kpop := popK, bpop := popB, spop := popA, flen := Ab.len, fact := actA, fhas := hasA, fsort := sortL }
structure BothAt (B H G ga gi : Nat) (F : Nat → Prop) (s t : Ab) (w : World) : Prop where
  one : At (fun k => F k ∧ ¬ (k = G ∨ k = ga ∨ k = gi)) w H s
  two : RMem w G ga gi t
  own : F G ∧ F ga ∧ F gi
  low : ∀ k, F k → B ≤ k ∧ k < w.heap.size
  size : B ≤ w.heap.size
section
variable {B H G ga gi : Nat} {F : Nat → Prop} {s s' t t' : Ab} {w : World}
theorem BothAt.step1 {f : FuncId} {args : Array Value} {v : Value} (h : BothAt B H G ga gi F s t w)
    (hc : Calls Try.prog f args w fun e w' => e = .returned v ∧ At (more (fun k => F k ∧ ¬ (k = G ∨ k = ga ∨ k = gi)) w w') w' H s' ∧ Keeps (fun k => F k ∧ ¬ (k = G ∨ k = ga ∨ k = gi)) w w') :
    Calls Try.prog f args w fun e w' => e = .returned v ∧ BothAt B H G ga gi (more F w w') s' t w' ∧ Keeps F w w' := by
  refine hc.mono fun e w' ⟨he, h1, h2⟩ => ⟨he, ⟨h1.mono fun k hk => ?_, h.two.keep h2 (by simp) (by simp) (by simp), ⟨.inl h.own.1, .inl h.own.2.1, .inl h.own.2.2⟩, fun k hk => ?_, Nat.le_trans h.size h2.size⟩, h2.mono fun k hk => hk.1⟩
  · rcases hk with h3 | h3
    · exact ⟨.inl h3.1, h3.2⟩
    · have e1 := (h.low _ h.own.1).2
      have e2 := (h.low _ h.own.2.1).2
      have e3 := (h.low _ h.own.2.2).2
      exact ⟨.inr h3, by omega⟩
  · have := h2.size
    have := h.size
    rcases hk with h3 | h3
    · have := h.low k h3; omega
    · omega
theorem BothAt.stay1 {f : FuncId} {args : Array Value} {v : Value} (h : BothAt B H G ga gi F s t w)
    (hc : Calls Try.prog f args w fun e w' => e = .returned v ∧ At (fun k => F k ∧ ¬ (k = G ∨ k = ga ∨ k = gi)) w' H s' ∧ Keeps (fun k => F k ∧ ¬ (k = G ∨ k = ga ∨ k = gi)) w w') :
    Calls Try.prog f args w fun e w' => e = .returned v ∧ BothAt B H G ga gi F s' t w' ∧ Keeps F w w' :=
  hc.mono fun e w' ⟨he, h1, h2⟩ => ⟨he, ⟨h1, h.two.keep h2 (by simp) (by simp) (by simp), h.own, fun k hk => ⟨(h.low k hk).1, Nat.lt_of_lt_of_le (h.low k hk).2 h2.size⟩, Nat.le_trans h.size h2.size⟩, h2.mono fun k hk => hk.1⟩
theorem BothAt.step2 {f : FuncId} {args : Array Value} {v : Value} (h : BothAt B H G ga gi F s t w)
    (hc : Calls Try.prog f args w fun e w' => e = .returned v ∧ RMem w' G ga gi t' ∧ Keeps (rset ga gi) w w') :
    Calls Try.prog f args w fun e w' => e = .returned v ∧ BothAt B H G ga gi (more F w w') s t' w' ∧ Keeps F w w' := by
  have hS : ∀ k, rset ga gi k → F k := fun k hk => by
    rcases hk with e | e
    · rw [e]; exact h.own.2.1
    · rw [e]; exact h.own.2.2
  refine hc.mono fun e w' ⟨he, h1, h2⟩ => ⟨he, ⟨(h.one.keep h2 fun k hk hs => hk.2 (.inr hs)).mono fun k hk => ⟨.inl hk.1, hk.2⟩, h1, ⟨.inl h.own.1, .inl h.own.2.1, .inl h.own.2.2⟩, fun k hk => ?_, Nat.le_trans h.size h2.size⟩, h2.mono hS⟩
  have := h2.size
  have := h.size
  rcases hk with h3 | h3
  · have := h.low k h3; omega
  · omega
theorem sort_told {f : FuncId} {args : Array Value} {a : Ab} {w : World}
    (hc : Calls Try.prog f args w fun e w' => ∃ v l, e = .returned v ∧ Sorted a l ∧ w'.ownsRow w.heap.size 3 1 v l.length (l.map fun k => .int .i64 ((k : Nat) : Int)) ∧ Below w.heap.size w w') :
    Calls Try.prog f args w fun e w' => ∃ A c, e = .returned (.slice A (sortL a).length c) ∧ Cells w' A (ints (sortL a)) ∧ Below w.heap.size w w' :=
  hc.mono fun e w' ⟨v, l, he, hs, ho, hb⟩ => by
    obtain ⟨A, c, rfl⟩ := owned_slice ho
    rw [sortL_of hs]
    exact ⟨A, c, he, Cells.own ho, hb⟩
theorem sortL_short {a : Ab} (h : a.n ≤ 65536) : (sortL a).length ≤ 65536 := by
  unfold sortL
  split
  · rename_i hx
    rw [(Exists.choose_spec hx).len]; exact Nat.le_trans (cnt_le _ _) h
  · exact Nat.zero_le _
end
theorem both_game (B H G ga gi : Nat) : Game abTells B (some ⟨H, 0, none⟩) (some ⟨G, 0, none⟩) (BothAt B H G ga gi) where
  low h := h.low
  size h := h.size
  keep h hk hS := ⟨h.one.keep hk (fun k hF => hS k hF.1), h.two.keep hk (hS _ h.own.1) (hS _ h.own.2.1) (hS _ h.own.2.2), h.own, fun k hF => ⟨(h.low k hF).1, Nat.lt_of_lt_of_le (h.low k hF).2 hk.size⟩, Nat.le_trans h.size hk.size⟩
  put1 i h := h.step1 (ptr_put h.one i)
  put2 i h := h.step2 (rput_any h.two i)
  bump1 i d h := h.step1 ((ptr_bump h.one i d).mono fun _ _ ⟨h1, h2, h3⟩ => ⟨h1, h2.mono (fun _ h => .inl h), h3⟩)
  bump2 i d h := h.step2 (rbump_any h.two i d)
  pop1 h := h.step1 ((ptr_pop h.one).mono fun _ _ ⟨h1, h2, h3⟩ => ⟨h1.told, h2.mono (fun _ h => .inl h), h3⟩)
  pop2 h := h.step2 ((rpop_any h.two).mono fun _ _ ⟨h1, h2, h3⟩ => ⟨h1.told, h2, h3.mono fun _ e => .inr e⟩)
  halve1 h := h.stay1 (ptr_halve h.one)
  halve2 h := h.step2 (rhalve_any h.two)
  len1 h := ptr_len h.one
  len2 h := rlen_any h.two
  act1 i h := ptr_act h.one i
  act2 i h := ract_any h.two i
  has1 i h := ptr_has h.one i
  has2 i h := rhas_any h.two i
  sort1 h := sort_told (sorted_any h.one)
  sort2 h := sort_told (rsorted_any h.two)
  short h := sortL_short h.one.small
end Go.Proofs.Ytdelfgilcfoaoaa.Hp
