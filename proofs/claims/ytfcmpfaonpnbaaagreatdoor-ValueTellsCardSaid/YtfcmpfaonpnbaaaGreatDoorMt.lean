import Derived.Test.YtfcmpfaonpnbaaaGreatDoorMi
/- merged by wip/merge.py from: ValLaw -/
/- Layer 9's laws, of what its functions answer, in plain words: no condition. -/
namespace Go.Proofs.YtfcmpfaonpnbaaaGreatDoor.Vl
open Go.RowKit Go.Proofs.YtfcmpfaonpnbaaaGreatDoor.Dt Go.Proofs.YtfcmpfaonpnbaaaGreatDoor.Sg

theorem ask_zero {g : Sig} {x : Wrld} {f : Int} {l : List Int} : askE g x f l = 0 ↔
    (mayW g x = true ∧ 0 ≤ f ∧ f < (g.funs.length : Int) ∧ (l.length : Int) = (g.funs.getD f.toNat noFun).len ∧ fitsB g.sorts.length x.sizes (g.funs.getD f.toNat noFun) (padA l) = true) := by
  unfold askE
  cases hm : mayW g x with
  | false => simp
  | true =>
    by_cases hf : f < 0 ∨ (g.funs.length : Int) ≤ f
    · rw [decide_eq_true hf]
      simp
      intro h1 h2
      omega
    · rw [decide_eq_false hf]
      by_cases hl : (l.length : Int) ≠ (g.funs.getD f.toNat noFun).len
      · rw [decide_eq_true hl]
        simp
        intro h1 h2 h3
        exact absurd h3 hl
      · rw [decide_eq_false hl]
        have hl' : (l.length : Int) = (g.funs.getD f.toNat noFun).len := by omega
        cases hq : fitsB g.sorts.length x.sizes (g.funs.getD f.toNat noFun) (padA l) <;> simp [hl'] <;> omega
theorem ask_cases (g : Sig) (x : Wrld) (f : Int) (l : List Int) : askE g x f l = 0 ∨ askE g x f l = 2 ∨ askE g x f l = 33 := by
  unfold askE
  split
  · exact .inr (.inl rfl)
  · split
    · exact .inl rfl
    · exact .inr (.inr rfl)
theorem with_cases (g : Sig) (x : Wrld) (f : Int) (l : List Int) (v : Int) : withE g x f l v = 0 ∨ withE g x f l v = 2 ∨ withE g x f l v = 33 := by
  unfold withE
  split
  · exact ask_cases g x f l
  · split
    · exact .inr (.inr rfl)
    · split
      · exact .inr (.inl rfl)
      · exact .inl rfl
theorem with_zero {g : Sig} {x : Wrld} {f : Int} {l : List Int} {v : Int} : withE g x f l v = 0 ↔
    (askE g x f l = 0 ∧ isB g.sorts.length x.sizes (g.funs.getD f.toNat noFun).res v = true ∧ (putRow (x.funs.getD f.toNat noVal).rows (padA l) v).length ≤ 400) := by
  unfold withE
  by_cases h : askE g x f l = 0
  · rw [if_neg (by simpa using h)]
    cases hi : isB g.sorts.length x.sizes (g.funs.getD f.toNat noFun).res v with
    | false => simp
    | true =>
      simp [h]
  · rw [if_pos h]
    exact ⟨fun e => absurd e h, fun e => absurd e.1 h⟩
theorem may_parts {g : Sig} {x : Wrld} (h : mayW g x = true) : checkB g = true ∧ x.sizes.length = g.sorts.length ∧ x.funs.length = g.funs.length ∧ sizesOk x.sizes = true ∧ ∀ i, i < x.funs.length → funAt g x i = true := by
  unfold mayW at h
  simp only [Bool.and_eq_true, decide_eq_true_eq] at h
  exact ⟨h.1.1.1.1, h.1.1.1.2, h.1.1.2, h.1.2, allTo_iff.1 h.2⟩
theorem may_made {g : Sig} {x : Wrld} (h1 : checkB g = true) (h2 : x.sizes.length = g.sorts.length) (h3 : x.funs.length = g.funs.length) (h4 : sizesOk x.sizes = true) (h5 : ∀ i, i < x.funs.length → funAt g x i = true) : mayW g x = true := by
  unfold mayW
  simp only [Bool.and_eq_true, decide_eq_true_eq]
  exact ⟨⟨⟨⟨h1, h2⟩, h3⟩, h4⟩, allTo_iff.2 h5⟩
theorem fun_len {g : Sig} (h : checkB g = true) {i : Nat} {f : Fun4} (hi : g.funs[i]? = some f) : funB g.sorts.length f = true := by
  unfold checkB at h
  simp only [Bool.and_eq_true] at h
  have h2 := allTo_iff.1 h.2.1.2 i (List.getElem?_eq_some_iff.1 hi).1
  unfold funOk at h2
  rw [hi] at h2
  simp only [Bool.and_eq_true] at h2
  exact h2.2
theorem funB_parts {n : Nat} {f : Fun4} (h : funB n f = true) : 0 ≤ f.len ∧ f.len ≤ 3 ∧ thereB n f.res = true := by
  unfold funB at h
  simp only [Bool.and_eq_true, decide_eq_true_eq] at h
  exact ⟨h.1.1.1.1.1, h.1.1.1.1.2, h.1.1.1.2⟩

section
variable {g : Sig} {x : Wrld} {f : Int} {l : List Int} {v : Int}
theorem getD_at {α : Type} {l : List α} {i : Nat} {d : α} (h : i < l.length) : l[i]? = some (l.getD i d) := by
  rw [List.getD_eq_getElem?_getD, List.getElem?_eq_getElem h]; rfl
/-- what is changed may be -/
theorem with_may (h : withE g x f l v = 0) : mayW g (withX x f l v) = true := by
  obtain ⟨ha, hv, hn⟩ := with_zero.1 h
  obtain ⟨hm, h0, hlt, hl, hfit⟩ := ask_zero.1 ha
  obtain ⟨h1, h2, h3, h4, h5⟩ := may_parts hm
  have hfl : f.toNat < x.funs.length := by omega
  refine may_made h1 h2 (by unfold withX; simp [h3]) h4 ?_
  intro i hi
  have hi' : i < x.funs.length := by unfold withX at hi; simpa using hi
  have hold := h5 i hi'
  unfold funAt withX
  by_cases e : i = f.toNat
  · subst e
    simp only [List.getElem?_set_self hfl]
    have hgf := getD_at (l := g.funs) (i := f.toNat) (d := noFun) (by omega)
    have hxf := getD_at (l := x.funs) (i := f.toNat) (d := noVal) hfl
    unfold funAt at hold
    rw [hgf, hxf] at hold
    rw [hgf]
    generalize g.funs.getD f.toNat noFun = F at *
    generalize x.funs.getD f.toNat noVal = V at *
    simp only [] at hold ⊢
    unfold funOkW at hold ⊢
    simp only [Bool.and_eq_true, decide_eq_true_eq, List.all_eq_true] at hold ⊢
    obtain ⟨⟨⟨o1, o2⟩, o3⟩, o4⟩ := hold
    refine ⟨⟨⟨once_put o1, hn⟩, o3⟩, fun r hr => ?_⟩
    rcases mem_put hr with hr | ⟨e1, e2⟩
    · exact o4 r hr
    · unfold rowOk
      rw [e1, e2, hfit, hv]; rfl
  · rw [List.getElem?_set_ne (by omega)]
    unfold funAt at hold
    exact hold
theorem ask_withX (hm : mayW g x = true) (h : withE g x f l v = 0) (k : Int) (m : List Int) : askE g (withX x f l v) k m = askE g x k m := by
  unfold askE
  rw [with_may h, hm]
  rfl
theorem with_fun (h : withE g x f l v = 0) : (withX x f l v).funs.getD f.toNat noVal = { (x.funs.getD f.toNat noVal) with rows := putRow (x.funs.getD f.toNat noVal).rows (padA l) v } := by
  obtain ⟨ha, _, _⟩ := with_zero.1 h
  obtain ⟨hm, h0, hlt, _, _⟩ := ask_zero.1 ha
  obtain ⟨_, _, h3, _, _⟩ := may_parts hm
  unfold withX
  simp only [List.getD_eq_getElem?_getD]
  rw [List.getElem?_set_self (by omega)]
  rfl
theorem with_fun_other {k : Nat} (h : k ≠ f.toNat) : (withX x f l v).funs.getD k noVal = x.funs.getD k noVal := by
  unfold withX
  simp only [List.getD_eq_getElem?_getD]
  rw [List.getElem?_set_ne (by omega)]
theorem with_apply (h : withE g x f l v = 0) : askE g (withX x f l v) f l = 0 ∧ applyV g (withX x f l v) f l = v := by
  obtain ⟨ha, _, _⟩ := with_zero.1 h
  obtain ⟨hm, _⟩ := ask_zero.1 ha
  have e : askE g (withX x f l v) f l = 0 := by rw [ask_withX hm h]; exact ha
  refine ⟨e, ?_⟩
  unfold applyV
  rw [if_pos e, with_fun h]
  exact lookV_put
theorem pad_inj {m : List Int} (h : padA l = padA m) (hl : l.length = m.length) (h3 : l.length ≤ 3) : l = m := by
  unfold padA at h
  simp only [Prod.mk.injEq] at h
  obtain ⟨a, b, c⟩ := h
  match l, m, hl, h3 with
  | [], [], _, _ => rfl
  | [p], [q], _, _ => simpa using a
  | [p, p'], [q, q'], _, _ => simp at a b; rw [a, b]
  | [p, p', p''], [q, q', q''], _, _ => simp at a b c; rw [a, b, c]
/-- elsewhere it is as it was -/
theorem with_other (h : withE g x f l v = 0) (k : Int) (m : List Int) : askE g (withX x f l v) k m = askE g x k m ∧ ((k = f ∧ m = l) ∨ applyV g (withX x f l v) k m = applyV g x k m) := by
  obtain ⟨ha, _, _⟩ := with_zero.1 h
  obtain ⟨hm, h0, hlt, hl, _⟩ := ask_zero.1 ha
  have e := ask_withX hm h k m
  refine ⟨e, ?_⟩
  unfold applyV
  rw [e]
  by_cases hk : askE g x k m = 0
  · rw [if_pos hk, if_pos hk]
    obtain ⟨_, k0, klt, kl, _⟩ := ask_zero.1 hk
    by_cases he : k.toNat = f.toNat
    · have hkf : k = f := by omega
      subst hkf
      rw [with_fun h]
      by_cases hp : padA m = padA l
      · left
        refine ⟨rfl, ?_⟩
        have hB := funB_parts (fun_len (may_parts hm).1 (getD_at (l := g.funs) (i := k.toNat) (d := noFun) (by omega)))
        exact pad_inj hp (by omega) (by omega)
      · right
        exact lookV_put_other hp
    · right
      rw [with_fun_other he]
  · right
    rw [if_neg hk, if_neg hk]
end

theorem rep_getD {α : Type} {n k : Nat} {d : α} : (List.replicate n d).getD k d = d := by
  rw [List.getD_eq_getElem?_getD]
  cases h : (List.replicate n d)[k]? with
  | none => rfl
  | some x =>
    have := List.mem_of_getElem? h
    rw [List.mem_replicate] at this
    exact this.2
theorem plain_is {n : Nat} {s : Int} (h : thereB n s = true) : isB n (List.replicate n 1) s 0 = true := by
  unfold thereB at h
  rw [decide_eq_true_iff] at h
  unfold isB valB
  rw [List.length_replicate, decide_eq_true rfl, decide_eq_true h]
  by_cases h0 : s = 0
  · rw [if_pos h0]; rfl
  · rw [if_neg h0]
    by_cases h1 : s = 1
    · rw [if_pos h1]; rfl
    · rw [if_neg h1, List.getD_eq_getElem?_getD, List.getElem?_eq_getElem (by rw [List.length_replicate]; omega)]
      simp
theorem plain_may (g : Sig) : mayW g (plainW g) = checkB g := by
  cases hc : checkB g with
  | false => unfold mayW; rw [hc]; rfl
  | true =>
    refine may_made hc (by simp [plainW]) (by simp [plainW]) (by simp [plainW, sizesOk]) ?_
    intro i hi
    have hi' : i < g.funs.length := by simpa [plainW] using hi
    unfold funAt plainW
    have hgf := List.getElem?_eq_getElem hi'
    have hB := funB_parts (fun_len hc hgf)
    rw [hgf]
    simp only [List.getElem?_replicate, if_pos hi']
    unfold funOkW noVal
    simp only [plain_is hB.2.2]
    rfl
theorem plain_apply (g : Sig) (f : Int) (l : List Int) : applyV g (plainW g) f l = 0 := by
  unfold applyV
  split
  · unfold plainW
    simp only [rep_getD]
    rfl
  · rfl

/-- changes at unlike places turned about -/
theorem turns {g : Sig} {x : Wrld} {f h : Int} {a b : List Int} {v u : Int} (hne : ¬ (f = h ∧ a = b)) (h1 : withE g x f a v = 0) (h2 : withE g x h b u = 0) :
    withE g (withX x f a v) h b u = withE g (withX x h b u) f a v ∧ (withE g (withX x f a v) h b u = 0 →
      askE g (withX (withX x f a v) h b u) f a = 0 ∧ askE g (withX (withX x h b u) f a v) f a = 0 ∧ applyV g (withX (withX x f a v) h b u) f a = applyV g (withX (withX x h b u) f a v) f a ∧
      askE g (withX (withX x f a v) h b u) h b = 0 ∧ askE g (withX (withX x h b u) f a v) h b = 0 ∧ applyV g (withX (withX x f a v) h b u) h b = applyV g (withX (withX x h b u) f a v) h b) := by
  obtain ⟨a1, b1, c1⟩ := with_zero.1 h1
  obtain ⟨a2, b2, c2⟩ := with_zero.1 h2
  obtain ⟨hm, p0, plt, pl, _⟩ := ask_zero.1 a1
  obtain ⟨_, q0, qlt, ql, _⟩ := ask_zero.1 a2
  have e1 := ask_withX hm h1 h b
  have e2 := ask_withX hm h2 f a
  rw [a2] at e1
  rw [a1] at e2
  have hE : withE g (withX x f a v) h b u = withE g (withX x h b u) f a v := by
    unfold withE
    rw [e1, e2]
    simp only [ne_eq, not_true, if_false]
    have s1 : (withX x f a v).sizes = x.sizes := rfl
    have s2 : (withX x h b u).sizes = x.sizes := rfl
    rw [s1, s2, b1, b2]
    simp only [Bool.not_true, Bool.false_eq_true, if_false]
    by_cases he : f = h
    · subst he
      rw [with_fun h1, with_fun h2]
      have hab : padA a ≠ padA b := fun e => by
        have hB := funB_parts (fun_len (may_parts hm).1 (getD_at (l := g.funs) (i := f.toNat) (d := noFun) (by omega)))
        exact hne ⟨rfl, pad_inj e (by omega) (by omega)⟩
      have hlen : (putRow (putRow (x.funs.getD f.toNat noVal).rows (padA a) v) (padA b) u).length = (putRow (putRow (x.funs.getD f.toNat noVal).rows (padA b) u) (padA a) v).length := by
        have l1 := congrArg List.length (args_put (l := putRow (x.funs.getD f.toNat noVal).rows (padA a) v) (a := padA b) (v := u))
        have l2 := congrArg List.length (args_put (l := putRow (x.funs.getD f.toNat noVal).rows (padA b) u) (a := padA a) (v := v))
        have l3 := congrArg List.length (args_put (l := (x.funs.getD f.toNat noVal).rows) (a := padA a) (v := v))
        have l4 := congrArg List.length (args_put (l := (x.funs.getD f.toNat noVal).rows) (a := padA b) (v := u))
        have k1 : hasA (putRow (x.funs.getD f.toNat noVal).rows (padA a) v) (padA b) = hasA (x.funs.getD f.toNat noVal).rows (padA b) := by
          rw [Bool.eq_iff_iff, hasA_iff, hasA_iff]
          have := args_put (l := (x.funs.getD f.toNat noVal).rows) (a := padA a) (v := v)
          constructor
          · rintro ⟨r, hr, e⟩
            rcases mem_put hr with hr | ⟨e', _⟩
            · exact ⟨r, hr, e⟩
            · exact absurd (e'.symm.trans e) hab
          · rintro ⟨r, hr, e⟩
            have hin : Row.args r ∈ (putRow (x.funs.getD f.toNat noVal).rows (padA a) v).map Row.args := by
              rw [this]
              have := List.mem_map_of_mem (f := Row.args) hr
              split
              · exact this
              · exact List.mem_append_left _ this
            obtain ⟨q, hq, eq⟩ := List.mem_map.1 hin
            exact ⟨q, hq, eq.trans e⟩
        have k2 : hasA (putRow (x.funs.getD f.toNat noVal).rows (padA b) u) (padA a) = hasA (x.funs.getD f.toNat noVal).rows (padA a) := by
          rw [Bool.eq_iff_iff, hasA_iff, hasA_iff]
          have := args_put (l := (x.funs.getD f.toNat noVal).rows) (a := padA b) (v := u)
          constructor
          · rintro ⟨r, hr, e⟩
            rcases mem_put hr with hr | ⟨e', _⟩
            · exact ⟨r, hr, e⟩
            · exact absurd (e.symm.trans e') hab
          · rintro ⟨r, hr, e⟩
            have hin : Row.args r ∈ (putRow (x.funs.getD f.toNat noVal).rows (padA b) u).map Row.args := by
              rw [this]
              have := List.mem_map_of_mem (f := Row.args) hr
              split
              · exact this
              · exact List.mem_append_left _ this
            obtain ⟨q, hq, eq⟩ := List.mem_map.1 hin
            exact ⟨q, hq, eq.trans e⟩
        rw [k1] at l1
        rw [k2] at l2
        clear k1 k2
        generalize (x.funs.getD f.toNat noVal).rows = R at *
        generalize hasA R (padA a) = ka at *
        generalize hasA R (padA b) = kb at *
        cases ka <;> cases kb <;> simp at l1 l2 l3 l4 <;> omega
      simp only []
      rw [hlen]
    · have n1 : h.toNat ≠ f.toNat := by omega
      rw [with_fun_other n1, with_fun_other (Ne.symm n1), if_neg (by omega), if_neg (by omega)]
  refine ⟨hE, fun hz => ?_⟩
  have hz2 := hE.symm.trans hz
  have P := with_other hz f a
  have Q := with_apply hz
  have R := with_other hz2 h b
  have S := with_apply hz2
  obtain ⟨A1, A2⟩ := with_apply h1
  obtain ⟨B1, B2⟩ := with_apply h2
  have PV : applyV g (withX (withX x f a v) h b u) f a = v := by
    rcases P.2 with e | e
    · exact absurd e hne
    · rw [e, A2]
  have RV : applyV g (withX (withX x h b u) f a v) h b = u := by
    rcases R.2 with e | e
    · exact absurd ⟨e.1.symm, e.2.symm⟩ hne
    · rw [e, B2]
  exact ⟨P.1.trans A1, S.1, PV.trans S.2.symm, Q.1, R.1.trans B1, Q.2.trans RV.symm⟩
end Go.Proofs.YtfcmpfaonpnbaaaGreatDoor.Vl
