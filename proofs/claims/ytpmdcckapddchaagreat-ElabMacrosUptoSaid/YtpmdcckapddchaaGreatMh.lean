import Derived.Test.YtpmdcckapddchaaGreatShort
import Derived.Test.YtpmdcckapddchaaGreatMg
/- merged by wip/merge.py from: ElSim2 ElSim3 ElMacros -/
/- Two makers side by side: a term. No program in sight. -/
namespace Go.Proofs.YtpmdcckapddchaaGreat.El
open Go.RowKit Go.Proofs.YtpmdcckapddchaaGreat.Dt Go.Proofs.YtpmdcckapddchaaGreat.Sg
section
variable {c1 c2:Cx} (M:Sim c1 c2)
theorem head_stick (c:Cx) (k:Int) (l:List V) (st:St) (h:st.e≠0):(headM c k l st).2=st:=left_stick c k _ _ st h
theorem equal_sim {l1 l2:List V} {s1 s2:St} (hs:M.S s1 s2) (hl:Pw (M.R s2.t) l1 l2):M.Out s2.t (equalM c1 l1 s1) (equalM c2 l2 s2):=by
 unfold equalM;rw [alike_sim M hl]
 cases alikeB l2 with
 | true =>
  simp only [if_true];rw [if_neg (by simp [(M.ok hs).1]),if_neg (by simp [(M.ok hs).2])];rcases eqs_sim M hs (hl.head (M.nought hs)) hl.tail with⟨h1,h2,h3⟩ | h
  ·exact(head_sim M 2 h1 h2).wide h3
  ·exact .inr (M.bad h (head_stick _ _ _ _) (head_stick _ _ _ _))
 | false =>
  simp only [if_false,Bool.false_eq_true];have e1:(failS 33 s1).e≠0:=by unfold failS;rw [if_pos (M.ok hs).1];show(33:Int)≠0;decide
  have e2:(failS 33 s2).e≠0:=by unfold failS;rw [if_pos (M.ok hs).2];show(33:Int)≠0;decide
  rw [if_pos e1,if_pos e2];exact .inr (M.fail 33 hs (by decide))
theorem distinctM_sim {l1 l2:List V} {s1 s2:St} (hs:M.S s1 s2) (hl:Pw (M.R s2.t) l1 l2):M.Out s2.t (distinctM c1 l1 s1) (distinctM c2 l2 s2):=by
 unfold distinctM;rw [alike_sim M hl]
 cases alikeB l2 with
 | true =>
  simp only [if_true];rw [if_neg (by simp [(M.ok hs).1]),if_neg (by simp [(M.ok hs).2])];rcases distinct_sim M hs hl with⟨h1,h2,h3⟩ | h
  ·exact(head_sim M 2 h1 h2).wide h3
  ·exact .inr (M.bad h (head_stick _ _ _ _) (head_stick _ _ _ _))
 | false =>
  simp only [if_false,Bool.false_eq_true];have e1:(failS 33 s1).e≠0:=by unfold failS;rw [if_pos (M.ok hs).1];show(33:Int)≠0;decide
  have e2:(failS 33 s2).e≠0:=by unfold failS;rw [if_pos (M.ok hs).2];show(33:Int)≠0;decide
  rw [if_pos e1,if_pos e2];exact .inr (M.fail 33 hs (by decide))
theorem make_sim (way:Nat) {l1 l2:List V} {s1 s2:St} (hs:M.S s1 s2) (hl:Pw (M.R s2.t) l1 l2):M.Out s2.t (makeM c1 way l1 s1) (makeM c2 way l2 s2):=by
 have hz:=M.nought hs;have h2:Pw (M.R s2.t) [l1.getD 1 v0,l1.getD 0 v0] [l2.getD 1 v0,l2.getD 0 v0]:=⟨hl.second hz,hl.head hz,trivial⟩
 have e11:∀ (c:Cx) (n:Nat) (l:List V) (st:St),makeM c (n+11) l st=opM c 9 0 [l.getD 1 v0,l.getD 0 v0] st:=fun c n l st=>by
  unfold makeM;iterate 11 rw [if_neg (by omega)]
 match way with
 | 0=>exact M.op 1 0 hs hl M.zero (.inl rfl)
 | 1=>exact head_sim M 2 hs hl
 | 2=>exact head_sim M 3 hs hl
 | 3=>exact head_sim M 4 hs hl
 | 4=>exact imp_sim M hs (hl.reverse.head hz) hl.reverse.tail
 | 5=>exact equal_sim M hs hl
 | 6=>exact distinctM_sim M hs hl
 | 7=>exact M.op 7 0 hs hl M.zero (.inl rfl)
 | 8=>exact M.op 8 0 hs hl M.zero (.inl rfl)
 | 9=>exact M.op 9 0 hs hl M.zero (.inl rfl)
 | 10=>exact M.op 8 0 hs h2 M.zero (.inl rfl)
 | n+11=>rw [e11,e11];exact M.op 9 0 hs h2 M.zero (.inl rfl)
theorem diff_stick (c:Cx) (x y:V) (n:Int) (st:St) (h:st.e≠0):(diffM c x y n st).2=st:=by
 unfold diffM;rw [if_neg (by simp [h]),op_stick _ _ _ _ _ h]
theorem held_stick (c:Cx) (name:ByteArray) (a b:V) (n:Int) (st:St) (h:st.e≠0):(heldM c name a b n st).2=st:=by
 unfold heldM
 repeat' split
 ·exact diff_stick _ _ _ _ _ h
 ·exact diff_stick _ _ _ _ _ h
 ·exact diff_stick _ _ _ _ _ h
 ·exact diff_stick _ _ _ _ _ h
 ·simp only [diff_stick _ _ _ _ _ h,op_stick _ _ _ _ _ h]
theorem held_sim (name:ByteArray) (n:Int) {a1 a2 b1 b2:V} {s1 s2:St} (hs:M.S s1 s2) (ha:M.R s2.t a1 a2) (hb:M.R s2.t b1 b2):M.Out s2.t (heldM c1 name a1 b1 n s1) (heldM c2 name a2 b2 n s2):=by
 unfold heldM
 split
 ·exact M.diff _ hs ha hb
 split
 ·exact M.diff _ hs ha hb
 split
 ·exact M.diff _ hs hb ha
 split
 ·exact M.diff _ hs hb ha
 ·rcases M.diff n hs ha hb with⟨h1,h2,h3⟩ | h
  ·rcases M.diff (-n) h1 (M.mono hb h3) (M.mono ha h3) with⟨i1,i2,i3⟩ | i
   ·exact Sim.Out.wide (M:=M) (M.op 2 0 i1 ⟨M.mono h2 i3,i2,trivial⟩ M.zero (.inl rfl)) (h3.trans i3)
   ·refine .inr (M.bad i (fun h=>?_) (fun h=>?_))
    ·show(opM _ _ _ _ _).2=_;rw [op_stick _ _ _ _ _ h]
    ·show(opM _ _ _ _ _).2=_;rw [op_stick _ _ _ _ _ h]
  ·refine .inr (M.bad h (fun h=>?_) (fun h=>?_))
   ·show(opM _ _ _ _ (diffM _ _ _ _ _).2).2=_;rw [diff_stick _ _ _ _ _ h,op_stick _ _ _ _ _ h]
   ·show(opM _ _ _ _ (diffM _ _ _ _ _).2).2=_;rw [diff_stick _ _ _ _ _ h,op_stick _ _ _ _ _ h]
theorem sorts_sim:∀ {l1 l2:List V} (q:List Int) {s1 s2:St},M.S s1 s2→Pw (M.R s2.t) l1 l2→(M.S (sortsM l1 q s1) (sortsM l2 q s2)∧sortsM l1 q s1=s1∧sortsM l2 q s2=s2)∨M.B (sortsM l1 q s1) (sortsM l2 q s2)
 | [],[],_,_,_,hs,_=>by unfold sortsM;exact .inl ⟨hs,rfl,rfl⟩
 | _ :: _,_ :: _,[],_,_,hs,_=>by unfold sortsM;exact .inl ⟨hs,rfl,rfl⟩
 | a :: l1,b :: l2,s :: q,s1,s2,hs,⟨ha,hl⟩=>by
  unfold sortsM;have hab:=M.sort ha;have e1:=(M.ok hs).1;have e2:=(M.ok hs).2
  by_cases h:a.1=s
  ·rw [if_neg (by simp [h]),if_neg (by simp [← hab,h])];exact sorts_sim q hs hl
  ·rw [if_pos ⟨e1,h⟩,if_pos ⟨e2,by rw [← hab];exact h⟩]
   have hb:M.B { s1 with e:=33 } { s2 with e:=33 }:=by
    have:=M.fail 33 hs (by decide);unfold failS at this
    rwa [if_pos e1,if_pos e2] at this
   exact .inr (M.bad hb (fun h=>sorts_stick _ _ _ h) (fun h=>sorts_stick _ _ _ h))
 | [],_ :: _,_,_,_,_,h=>h.elim
 | _ :: _,[],_,_,_,_,h=>h.elim
variable {r1 r2:Sexp→St→V × St}
def Sim.Each (M:Sim c1 c2) (r1 r2:Sexp→St→V × St) (t:List Node) (y:Sexp):Prop:=∀ s1 s2,M.S s1 s2→t <+: s2.t→M.Out s2.t (r1 y s1) (r2 y s2)
theorem all_sim (k1:∀ y st,st.e≠0→(r1 y st).2=st) (k2:∀ y st,st.e≠0→(r2 y st).2=st) {t:List Node}:∀ {l:List Sexp} {s1 s2:St},M.S s1 s2→t <+: s2.t→(∀ y ∈ l,M.Each r1 r2 t y)→M.OutL s2.t (allM r1 l s1) (allM r2 l s2)
 | [],_,_,hs,_,_=>.inl ⟨hs,trivial,List.prefix_refl _⟩
 | y :: l,s1,s2,hs,ht,hr=>by
  unfold allM;rcases hr y (by simp) s1 s2 hs ht with⟨h1,h2,h3⟩ | h
  ·rcases all_sim k1 k2 (l:=l) h1 (ht.trans h3) (fun y hy=>hr y (by simp [hy])) with⟨i1,i2,i3⟩ | i
   ·exact .inl ⟨i1,⟨M.mono h2 i3,i2⟩,h3.trans i3⟩
   ·exact .inr i
  ·exact .inr (M.bad h (all_stick k1 _ _) (all_stick k2 _ _))
theorem sum_sim (k1:∀ y st,st.e≠0→(r1 y st).2=st) (k2:∀ y st,st.e≠0→(r2 y st).2=st) (name:ByteArray) {x:Sexp} {s1 s2:St} (hs:M.S s1 s2) (hsub:∀ i,isNumX (nthX x i)=true→(nthX x i).stands=true) (hr:∀ i,i=1∨i=2→x.l.length=3∨x.l.length=2∧i=1→M.Each r1 r2 s2.t (nthX x i)) (hra:∀ y ∈ x.l.tail,M.Each r1 r2 s2.t y) :
  M.Out s2.t (sumM c1 r1 name x s1) (sumM c2 r2 name x s2):=by
 have hp:=List.prefix_refl s2.t;unfold sumM
 split
 ·rename_i h
  rcases hr 1 (.inl rfl) (.inr ⟨h.1,rfl⟩) s1 s2 hs hp with⟨h1,h2,h3⟩ | h
  ·exact .inr (M.fail 34 h1 (by decide))
  ·exact .inr (M.bad h (fail_stick 34 _) (fail_stick 34 _))
 split
 ·exact .inr (M.fail 30 hs (by decide))
 rename_i hl
 have hl:x.l.length=3:=Decidable.not_not.1 hl
 split
 ·rename_i hn
  rcases hr 1 (.inl rfl) (.inl hl) s1 s2 hs hp with⟨h1,h2,h3⟩ | h
  ·have he:(numberM c1 (nthX x 2) (r1 (nthX x 1) s1).2).1=(numberM c2 (nthX x 2) (r2 (nthX x 1) s2).2).1:=by
    unfold numberM;split <;> rfl
   simp only [← he];rcases M.number h1 (hsub 2 hn) hn with⟨i1,i2,i3⟩ | i
   ·refine Sim.Out.wide (M:=M) (M.op 11 _ i1 (l1:=[_]) (l2:=[_]) ⟨by rw [i2];exact h2,trivial⟩ ?_ (.inr (.inr (.inl rfl)))) (by rw [i2];exact h3)
    split
    ·exact M.neg i3
    ·exact i3
   ·refine .inr (M.bad i (fun h=>?_) (fun h=>?_))
    ·rw [op_stick _ _ _ _ _ h]
    ·rw [op_stick _ _ _ _ _ h]
  ·refine .inr (M.bad h (fun h=>?_) (fun h=>?_))
   ·show(opM _ _ _ _ (numberM _ _ _).2).2=_;rw [number_stick _ _ _ h,op_stick _ _ _ _ _ h]
   ·show(opM _ _ _ _ (numberM _ _ _).2).2=_;rw [number_stick _ _ _ h,op_stick _ _ _ _ _ h]
 split
 ·rename_i hn
  have he:(numberM c1 (nthX x 1) s1).1=(numberM c2 (nthX x 1) s2).1:=by unfold numberM;split <;> rfl
  simp only [← he];rcases M.number hs (hsub 1 hn.2) hn.2 with⟨i1,i2,i3⟩ | i
  ·rcases hr 2 (.inr rfl) (.inl hl) _ _ i1 (by rw [i2];exact hp) with⟨h1,h2,h3⟩ | h
   ·exact Sim.Out.wide (M:=M) (M.op 11 _ h1 (l1:=[_]) (l2:=[_]) ⟨h2,trivial⟩ i3 (.inr (.inr (.inl rfl)))) (by rw [i2] at h3;exact h3)
   ·refine .inr (M.bad h (fun h=>?_) (fun h=>?_))
    ·rw [op_stick _ _ _ _ _ h]
    ·rw [op_stick _ _ _ _ _ h]
  ·refine .inr (M.bad i (fun h=>?_) (fun h=>?_))
   ·show(opM _ _ _ _ (r1 _ (numberM _ _ _).2).2).2=_;rw [k1 _ _ h,op_stick _ _ _ _ _ h]
   ·show(opM _ _ _ _ (r2 _ (numberM _ _ _).2).2).2=_;rw [k2 _ _ h,op_stick _ _ _ _ _ h]
 ·rcases all_sim M k1 k2 hs hp hra with⟨h1,h2,h3⟩ | h
  ·exact .inr (M.fail 34 h1 (by decide))
  ·exact .inr (M.bad h (fail_stick 34 _) (fail_stick 34 _))
end
end Go.Proofs.YtpmdcckapddchaaGreat.El
/- Two makers side by side: differences, calls, lets, lists, any term. No program in sight. -/
namespace Go.Proofs.YtpmdcckapddchaaGreat.El
open Go.RowKit Go.Proofs.YtpmdcckapddchaaGreat.Dt Go.Proofs.YtpmdcckapddchaaGreat.Sg
theorem l_stands {x:Sexp} (h:x.stands=true):∀ y ∈ x.l,y.stands=true:=by
 intro y hy;rw [Sexp.stands_eq] at h
 have hno:x.l.isEmpty=true→False:=fun e=>by
  rw [List.isEmpty_iff] at e;rw [e] at hy
  cases hy
 split at h
 ·rw [Bool.and_eq_true] at h;exact(hno h.1).elim
 split at h
 ·rw [Bool.and_eq_true] at h;exact(hno h.1).elim
 split at h
 ·rw [Bool.and_eq_true] at h;exact(hno h.1).elim
 split at h
 ·rw [Bool.and_eq_true,Sexp.standsL_all,List.all_eq_true] at h;exact h.2 y hy
 ·cases h
theorem nth_stands {x:Sexp} (h:x.stands=true) (i:Nat):(nthX x i).stands=true:=by
 unfold nthX;rw [List.getD_eq_getElem?_getD]
 cases hy:x.l[i]? with
 | none=>show(Sexp.mk 0 { data:=#[] } []).stands=true;decide +kernel
 | some y=>exact l_stands h y (List.mem_of_getElem? hy)
theorem second_stands {x:Sexp} (h:x.stands=true):(secondX x).stands=true:=nth_stands h 1
section
variable {c1 c2:Cx} (M:Sim c1 c2)
variable {r1 r2:Sexp→St→V × St}
theorem number_same (c1 c2:Cx) (x:Sexp) (s1 s2:St):(numberM c1 x s1).1=(numberM c2 x s2).1:=by unfold numberM;split <;> rfl
theorem diffL_sim (k1:∀ y st,st.e≠0→(r1 y st).2=st) (k2:∀ y st,st.e≠0→(r2 y st).2=st) (name:ByteArray) {x:Sexp} {s1 s2:St} (hs:M.S s1 s2) (hn:isNumX (nthX x 2)=true) (hst:(nthX x 2).stands=true)
  (ha:M.Each r1 r2 s2.t (nthX (nthX x 1) 1)) (hb:M.Each r1 r2 s2.t (nthX (nthX x 1) 2)):M.Out s2.t (diffLM c1 r1 name x s1) (diffLM c2 r2 name x s2):=by
 have hp:=List.prefix_refl s2.t;unfold diffLM;simp only;rcases ha s1 s2 hs hp with⟨a1,a2,a3⟩ | h
 ·rcases hb _ _ a1 a3 with⟨b1,b2,b3⟩ | h
  ·rw [number_same c1 c2 (nthX x 2) _ (r2 (nthX (nthX x 1) 2) (r2 (nthX (nthX x 1) 1) s2).2).2];rcases M.number b1 hst hn with⟨i1,i2,i3⟩ | i
   ·exact Sim.Out.wide (M:=M) (held_sim M name _ i1 (M.mono a2 (by rw [i2];exact b3)) (by rw [i2];exact b2)) (by rw [i2];exact a3.trans b3)
   ·exact .inr (M.bad i (held_stick _ _ _ _ _ _) (held_stick _ _ _ _ _ _))
  ·refine .inr (M.bad h (fun h=>?_) (fun h=>?_))
   ·show(heldM _ _ _ _ _ (numberM _ _ _).2).2=_;rw [number_stick _ _ _ h,held_stick _ _ _ _ _ _ h]
   ·show(heldM _ _ _ _ _ (numberM _ _ _).2).2=_;rw [number_stick _ _ _ h,held_stick _ _ _ _ _ _ h]
 ·refine .inr (M.bad h (fun h=>?_) (fun h=>?_))
  ·show(heldM _ _ _ _ _ (numberM _ _ (r1 _ (r1 _ s1).2).2).2).2=_;rw [k1 _ _ h,number_stick _ _ _ h,held_stick _ _ _ _ _ _ h]
  ·show(heldM _ _ _ _ _ (numberM _ _ (r2 _ (r2 _ s2).2).2).2).2=_;rw [k2 _ _ h,number_stick _ _ _ h,held_stick _ _ _ _ _ _ h]
theorem diffR_sim (k1:∀ y st,st.e≠0→(r1 y st).2=st) (k2:∀ y st,st.e≠0→(r2 y st).2=st) (name:ByteArray) {x:Sexp} {s1 s2:St} (hs:M.S s1 s2) (hn:isNumX (nthX x 1)=true) (hst:(nthX x 1).stands=true)
  (ha:M.Each r1 r2 s2.t (nthX (nthX x 2) 1)) (hb:M.Each r1 r2 s2.t (nthX (nthX x 2) 2)):M.Out s2.t (diffRM c1 r1 name x s1) (diffRM c2 r2 name x s2):=by
 have hp:=List.prefix_refl s2.t;unfold diffRM;simp only;rw [number_same c1 c2 (nthX x 1) s1 s2];rcases M.number hs hst hn with⟨i1,i2,i3⟩ | h
 ·rcases ha _ _ i1 (by rw [i2];exact hp) with⟨a1,a2,a3⟩ | h
  ·rw [i2] at a3;rcases hb _ _ a1 a3 with⟨b1,b2,b3⟩ | h
   ·exact Sim.Out.wide (M:=M) (held_sim M (turnN name) _ b1 (M.mono a2 b3) b2) (a3.trans b3)
   ·exact .inr (M.bad h (held_stick _ _ _ _ _ _) (held_stick _ _ _ _ _ _))
  ·refine .inr (M.bad h (fun h=>?_) (fun h=>?_))
   ·show(heldM _ _ _ _ _ (r1 _ _).2).2=_;rw [k1 _ _ h,held_stick _ _ _ _ _ _ h]
   ·show(heldM _ _ _ _ _ (r2 _ _).2).2=_;rw [k2 _ _ h,held_stick _ _ _ _ _ _ h]
 ·refine .inr (M.bad h (fun h=>?_) (fun h=>?_))
  ·show(heldM _ _ _ _ _ (r1 _ (r1 _ (numberM _ _ _).2).2).2).2=_;rw [k1 _ _ h,k1 _ _ h,held_stick _ _ _ _ _ _ h]
  ·show(heldM _ _ _ _ _ (r2 _ (r2 _ (numberM _ _ _).2).2).2).2=_;rw [k2 _ _ h,k2 _ _ h,held_stick _ _ _ _ _ _ h]
theorem apply_sim (k1:∀ y st,st.e≠0→(r1 y st).2=st) (k2:∀ y st,st.e≠0→(r2 y st).2=st) (k:Nat) (f:Fun4) (hf:c2.g.funs[k]?=some f) {l:List Sexp} {s1 s2:St} (hs:M.S s1 s2) (hl:∀ y ∈ l,M.Each r1 r2 s2.t y) :
  M.Out s2.t (applyM c1 r1 f k l s1) (applyM c2 r2 f k l s2):=by
 unfold applyM
 split
 ·exact .inr (M.fail 30 hs (by decide))
 rename_i hlen
 have hlen:(l.length:Int)=f.len:=Decidable.not_not.1 hlen
 have hal:∀ (r:Sexp→St→V × St) (l:List Sexp) (st:St),(allM r l st).1.length=l.length:=by
  intro r l
  induction l with
  | nil=>intro st;rfl
  | cons y l ih=>intro st;unfold allM;simp [ih]
 simp only;rcases all_sim M k1 k2 hs (List.prefix_refl _) hl with⟨h1,h2,h3⟩ | h
 ·rcases sorts_sim M [f.a0,f.a1,f.a2] h1 h2 with⟨i1,i2,i3⟩ | i
  ·rw [i2,i3];exact Sim.Out.wide (M:=M) (M.app k f hf h1 h2 (by rw [hal];exact hlen) i3) h3
  ·exact .inr (M.bad i (put_stick _ _ _) (put_stick _ _ _))
 ·refine .inr (M.bad h (fun h=>?_) (fun h=>?_))
  ·rw [sorts_stick _ _ _ h,put_stick _ _ _ h]
  ·rw [sorts_stick _ _ _ h,put_stick _ _ _ h]
theorem macro_stick (c:Cx) (r:Rec) (m:Macro) (k:Nat) (l:List V) (st:St) (h:st.e≠0):(macroM c r m k l st).2=st:=by
 unfold macroM;simp only;rw [sorts_stick _ _ _ h,if_pos (.inl h)]
theorem all_len (r:Sexp→St→V × St):∀ (l:List Sexp) (st:St),(allM r l st).1.length=l.length
 | [],_=>rfl
 | y :: l,st=>by unfold allM;simp [all_len r l]
def Sim.At (M:Sim c1 c2) (kn1 kn2:Nat) (x:Sexp):Prop:=∀ env1 env2 s1 s2,M.S s1 s2→EnvP (M.R s2.t) env1 env2→M.Out s2.t (termP c1 kn1 x env1 s1) (termP c2 kn2 x env2 s2)
def Sim.Lax (M:Sim c1 c2) (kn1 kn2:Nat):Prop:=kn1=kn2∨(kn1≤kn2∧∀ s1 s2 t2,M.S s1 s2→M.B (failS 31 s1) t2)
variable {kn1 kn2:Nat} {env1 env2:Env} {s1 s2:St}
theorem Sim.At.each {M:Sim c1 c2} {x:Sexp} (h:M.At kn1 kn2 x) (he:EnvP (M.R s2.t) env1 env2):M.Each (fun y=>termP c1 kn1 y env1) (fun y=>termP c2 kn2 y env2) s2.t x:=fun u1 u2 hu ht=>h env1 env2 u1 u2 hu (M.env he ht)
theorem call_sim (hlax:M.Lax kn1 kn2) (name:ByteArray) {l:List Sexp} (hs:M.S s1 s2) (he:EnvP (M.R s2.t) env1 env2) (hl:∀ y ∈ l,M.At kn1 kn2 y) (hb:∀ k m,c2.g.macros[k]?=some m→k < kn1→M.At k k m.body) :
  M.Out s2.t (callM c1 (termP c1) kn1 name l env1 s1) (callM c2 (termP c2) kn2 name l env2 s2):=by
 have k1:∀ y st,st.e≠0→(termP c1 kn1 y env1 st).2=st:=fun y st h=>term_stick _ _ _ _ _ h;have k2:∀ y st,st.e≠0→(termP c2 kn2 y env2 st).2=st:=fun y st h=>term_stick _ _ _ _ _ h;have hle:∀ y ∈ l,M.Each (fun y=>termP c1 kn1 y env1) (fun y=>termP c2 kn2 y env2) s2.t y:=fun y hy=>(hl y hy).each he;have h0:M.Out s2.t (v0,s1) (v0,s2):=.inl ⟨hs,M.nought hs,List.prefix_refl _⟩;unfold callM;rw [M.same]
 split
 ·cases hf:c2.g.funs[findAt (c2.g.funs.map Fun4.name) name]? with
  | none=>exact h0
  | some f=>exact apply_sim M k1 k2 _ f hf hs hle
 ·by_cases h1:hasB (c2.g.macros.map Macro.name) name=true∧findAt (c2.g.macros.map Macro.name) name < kn1
  ·have h2:hasB (c2.g.macros.map Macro.name) name=true∧findAt (c2.g.macros.map Macro.name) name < kn2:=⟨h1.1,by rcases hlax with e | e <;> omega⟩
   rw [if_pos h1,if_pos h2]
   cases hm:c2.g.macros[findAt (c2.g.macros.map Macro.name) name]? with
   | none=>exact h0
   | some m =>
    simp only
    split
    ·exact .inr (M.fail 30 hs (by decide))
    rename_i hlen
    have hlen:l.length=m.params.length:=Decidable.not_not.1 hlen;rcases all_sim M k1 k2 hs (List.prefix_refl _) hle with⟨a1,a2,a3⟩ | h
    ·exact Sim.Out.wide (M:=M) (M.mac _ m hm a1 a2 (by rw [all_len];exact hlen) (fun hu hv=>hb _ m hm h1.2 _ _ _ _ hu hv)) a3
    ·exact .inr (M.bad h (macro_stick _ _ _ _ _ _) (macro_stick _ _ _ _ _ _))
  ·rw [if_neg h1];rcases hlax with e | e
   ·rw [e] at h1;rw [if_neg h1];exact .inr (M.fail 31 hs (by decide))
   ·exact .inr (e.2 s1 s2 _ hs)
theorem let_sim {x:Sexp} (hs:M.S s1 s2) (he:EnvP (M.R s2.t) env1 env2) (hx:x.l≠[]) (hst:x.stands=true) (hT:∀ y:Sexp,y.full < x.full→y.stands=true→M.At kn1 kn2 y) :
  M.Out s2.t (letM (termP c1) kn1 x env1 s1) (letM (termP c2) kn2 x env2 s2):=by
 have k1:∀ y st,st.e≠0→(termP c1 kn1 y env1 st).2=st:=fun y st h=>term_stick _ _ _ _ _ h;have k2:∀ y st,st.e≠0→(termP c2 kn2 y env2 st).2=st:=fun y st h=>term_stick _ _ _ _ _ h;unfold letM
 cases boundN x with
 | none=>exact .inr (M.fail 30 hs (by decide))
 | some names =>
  simp only
  have hl:∀ y ∈ (nthX x 1).l.map secondX,M.Each (fun y=>termP c1 kn1 y env1) (fun y=>termP c2 kn2 y env2) s2.t y:=fun y hy=>by
   obtain ⟨b,hb,rfl⟩:=List.mem_map.1 hy;have f1:=full_nth hx 1;have f2:=full_mem hb;have f3:=full_nth_le (x:=b) 1;exact(hT _ (by show(nthX b 1).full < _;omega) (second_stands (l_stands (nth_stands hst 1) b hb))).each he
  rcases all_sim M k1 k2 hs (List.prefix_refl _) hl with⟨a1,a2,a3⟩ | h
  ·exact Sim.Out.wide (M:=M) (hT _ (full_nth hx 2) (nth_stands hst 2) _ _ _ _ a1 ((EnvP.zip names a2).reverse.append (M.env he a3))) a3
  ·exact .inr (M.bad h (term_stick _ _ _ _ _) (term_stick _ _ _ _ _))
theorem differs_cases {name:ByteArray} {x:Sexp}:(differsN name x=1→isNumX (nthX x 2)=true)∧(differsN name x=2→isNumX (nthX x 1)=true):=by
 unfold differsN
 constructor
 ·intro h
  split at h
  ·split at h
   ·rename_i h1;rw [Bool.and_eq_true] at h1;exact h1.2
   ·split at h <;> cases h
  ·cases h
 ·intro h
  split at h
  ·split at h
   ·cases h
   ·split at h
    ·rename_i h1;rw [Bool.and_eq_true] at h1;exact h1.2
    ·cases h
  ·cases h
theorem list_sim (hlax:M.Lax kn1 kn2) {x:Sexp} (hs:M.S s1 s2) (he:EnvP (M.R s2.t) env1 env2) (hx:x.l≠[]) (hst:x.stands=true) (hT:∀ y:Sexp,y.full < x.full→y.stands=true→M.At kn1 kn2 y) (hb:∀ k m,c2.g.macros[k]?=some m→k < kn1→M.At k k m.body) :
  M.Out s2.t (listM c1 (termP c1) kn1 x env1 s1) (listM c2 (termP c2) kn2 x env2 s2):=by
 have k1:∀ y st,st.e≠0→(termP c1 kn1 y env1 st).2=st:=fun y st h=>term_stick _ _ _ _ _ h;have k2:∀ y st,st.e≠0→(termP c2 kn2 y env2 st).2=st:=fun y st h=>term_stick _ _ _ _ _ h;have hn:∀ i,M.Each (fun y=>termP c1 kn1 y env1) (fun y=>termP c2 kn2 y env2) s2.t (nthX x i):=fun i=>(hT _ (full_nth hx i) (nth_stands hst i)).each he;have hnn:∀ i j,M.Each (fun y=>termP c1 kn1 y env1) (fun y=>termP c2 kn2 y env2) s2.t (nthX (nthX x i) j):=fun i j=>(hT _ (Nat.lt_of_le_of_lt (full_nth_le j) (full_nth hx i)) (nth_stands (nth_stands hst i) j)).each he;have htl:∀ y ∈ x.l.tail,M.At kn1 kn2 y:=fun y hy=>hT y (tail_full hy) (l_stands hst y (List.mem_of_mem_tail hy));have hte:∀ y ∈ x.l.tail,M.Each (fun y=>termP c1 kn1 y env1) (fun y=>termP c2 kn2 y env2) s2.t y:=fun y hy=>(htl y hy).each he;unfold listM
 split
 ·exact let_sim M hs he hx hst hT
 split
 ·exact .inr (M.fail 30 hs (by decide))
 split
 ·exact sum_sim M k1 k2 (headS x) hs (fun i _=>nth_stands hst i) (fun i _ _=>hn i) hte
 cases wayN (headS x) with
 | none =>
  simp only
  split
  ·exact .inr (M.fail 30 hs (by decide))
  ·exact call_sim M hlax (headS x) hs he htl hb
 | some p =>
  obtain ⟨way,least,most⟩:=p;simp only
  split
  ·exact .inr (M.fail 30 hs (by decide))
  split
  ·rename_i h;exact diffL_sim M k1 k2 (headS x) hs (differs_cases.1 h) (nth_stands hst 2) (hnn 1 1) (hnn 1 2)
  split
  ·rename_i h;exact diffR_sim M k1 k2 (headS x) hs (differs_cases.2 h) (nth_stands hst 1) (hnn 2 1) (hnn 2 2)
  rcases all_sim M k1 k2 hs (List.prefix_refl _) hte with⟨a1,a2,a3⟩ | h
  ·rw [if_neg (by simp [(M.ok a1).1]),if_neg (by simp [(M.ok a1).2])];exact(make_sim M way a1 a2).wide a3
  ·refine .inr (M.bad h (fun h=>?_) (fun h=>?_))
   ·rw [if_pos h]
   ·rw [if_pos h]
theorem term_sim_step (hlax:M.Lax kn1 kn2) {x:Sexp} (hst:x.stands=true) (hT:∀ y:Sexp,y.full < x.full→y.stands=true→M.At kn1 kn2 y) (hb:∀ k m,c2.g.macros[k]?=some m→k < kn1→M.At k k m.body):M.At kn1 kn2 x:=by
 intro env1 env2 s1 s2 hs he;rw [termP_eq,termP_eq];unfold termStep;have q1:¬ s1.e≠0:=by simp [(M.ok hs).1]
 have q2:¬ s2.e≠0:=by simp [(M.ok hs).2]
 rw [if_neg q1,if_neg q2];clear q1 q2
 split
 ·rename_i hn
  rw [number_same c1 c2 x s1 s2];rcases M.number hs hst hn with⟨i1,i2,i3⟩ | h
  ·rw [number_same c1 c2 x s1 s2] at i3;exact Sim.Out.wide (M:=M) (M.op 10 _ (l1:=[]) (l2:=[]) i1 trivial i3 (.inr (.inl rfl))) (by rw [i2];exact List.prefix_refl _)
  ·refine .inr (M.bad h (fun h=>?_) (fun h=>?_))
   ·rw [op_stick _ _ _ _ _ h]
   ·rw [op_stick _ _ _ _ _ h]
 split
 ·rename_i hl
  have hx:x.l≠[]:=by
   unfold isListB at hl;intro e;rw [e] at hl;simp at hl
  exact list_sim M hlax hs he hx hst hT hb
 split
 ·exact .inr (M.fail 30 hs (by decide))
 rcases EnvP.find x.text he with⟨e1,e2⟩ | ⟨v,w,e1,e2,hv⟩
 ·rw [e1,e2];simp only
  split
  ·exact M.op 0 0 (l1:=[]) (l2:=[]) hs trivial M.zero (.inl rfl)
  split
  ·rcases M.op 0 0 (l1:=[]) (l2:=[]) hs trivial M.zero (.inl rfl) with⟨h1,h2,h3⟩ | h
   ·exact Sim.Out.wide (M:=M) (M.op 1 0 (l1:=[_]) (l2:=[_]) h1 ⟨h2,trivial⟩ M.zero (.inl rfl)) h3
   ·refine .inr (M.bad h (fun h=>?_) (fun h=>?_))
    ·rw [op_stick _ _ _ _ _ h]
    ·rw [op_stick _ _ _ _ _ h]
  split
  ·exact .inr (M.fail 30 hs (by decide))
  ·exact call_sim M hlax x.text hs he (fun y hy=>by cases hy) hb
 ·rw [e1,e2];exact .inl ⟨hs,hv,List.prefix_refl _⟩
theorem term_sim (hM:∀ m ∈ c2.g.macros,m.body.stands=true):∀ (n kn1 kn2:Nat) (x:Sexp),need c2.g kn1 x < n→M.Lax kn1 kn2→x.stands=true→M.At kn1 kn2 x:=by
 intro n
 induction n with
 | zero=>intro kn1 kn2 x h;omega
 | succ n ih =>
  intro kn1 kn2 x h hlax hst;refine term_sim_step M hlax hst (fun y hy hys=>ih kn1 kn2 y (by unfold need at *;omega) hlax hys) (fun k m hm hk=>?_);have h1:=sumB_lt hm hk;exact ih k k m.body (by unfold need at *;omega) (.inl rfl) (hM m (List.mem_of_getElem? hm))
end
end Go.Proofs.YtpmdcckapddchaaGreat.El
/- Two makers side by side whose counts of calls differ by one: for ElabMacros. -/
namespace Go.Proofs.YtpmdcckapddchaaGreat.El
open Go.RowKit Go.Proofs.YtpmdcckapddchaaGreat.Dt Go.Proofs.YtpmdcckapddchaaGreat.Sg
variable {d:Int}
def shiftC (d:Int) (st:St):St:={ st with calls:=st.calls+d }
theorem fail_shift (e:Int) (st:St):failS e (shiftC d st)=shiftC d (failS e st):=by
 unfold failS;show(if st.e=0 then _ else _)=_
 split <;> rfl
theorem put_shift (c:Cx) (n:Node) (st:St):putM c n (shiftC d st)=((putM c n st).1,shiftC d (putM c n st).2):=by
 unfold putM;show(if st.e≠0∨c.build=false then _ else if(putT st.t n c.most).2.2=0 then _ else _)=_
 split
 ·rfl
 ·split <;> rfl
theorem op_shift (c:Cx) (k n:Int) (l:List V) (st:St):opM c k n l (shiftC d st)=((opM c k n l st).1,shiftC d (opM c k n l st).2):=by
 unfold opM;show(if st.e≠0 then _ else _)=_
 split
 ·rfl
 ·cases opS k (l.map Prod.fst) with
  | none=>rfl
  | some s=>exact put_shift c _ st
theorem diff_shift (c:Cx) (x y:V) (n:Int) (st:St):diffM c x y n (shiftC d st)=((diffM c x y n st).1,shiftC d (diffM c x y n st).2):=by
 unfold diffM;show(if c.build=true∧st.e=0∧mayB n=false then _ else _)=_
 split
 ·rfl
 ·exact op_shift c 12 n [x,y] st
theorem number_shift (c:Cx) (x:Sexp) (st:St):numberM c x (shiftC d st)=((numberM c x st).1,shiftC d (numberM c x st).2):=by
 unfold numberM
 cases numN x with
 | none=>rfl
 | some p =>
  show(p.1,if p.2≠0∧c.build=true then failS p.2 (shiftC d st) else shiftC d st)=_;rw [fail_shift];show _=(p.1,shiftC d (if p.2≠0∧c.build=true then failS p.2 st else st))
  split <;> rfl
theorem sorts_shift:∀ (l:List V) (q:List Int) (st:St),sortsM l q (shiftC d st)=shiftC d (sortsM l q st)
 | v :: l,s :: q,st=>by
  show sortsM l q (if st.e=0∧v.1≠s then _ else _)=shiftC d (sortsM l q (if st.e=0∧v.1≠s then _ else _))
  split
  ·exact sorts_shift l q { st with e:=33 }
  ·exact sorts_shift l q st
 | [],_,_=>by unfold sortsM;rfl
 | _ :: _,[],_=>by unfold sortsM;rfl
theorem sorts_keep:∀ (l:List V) (q:List Int) (st:St),(sortsM l q st).t=st.t
 | v :: l,s :: q,st=>by
  unfold sortsM;rw [sorts_keep l q]
  split <;> rfl
 | [],_,_=>by unfold sortsM;rfl
 | _ :: _,[],_=>by unfold sortsM;rfl
theorem put_pre (c:Cx) (n:Node) (st:St) (h:(putM c n st).2.e=0):st.t <+: (putM c n st).2.t:=by
 unfold putM at *
 split at h
 ·rename_i hc;rw [if_pos hc];exact List.prefix_refl _
 ·rename_i hc
  rw [if_neg hc]
  split at h
  ·rename_i h2
   rw [if_pos h2];show st.t <+: (putT st.t n c.most).1;unfold putT at *
   split at h2
   ·rename_i h3
    rw [if_pos h3]
    split
    ·exact List.prefix_refl _
    ·split
     ·rename_i h4 h5;rw [if_neg h4,if_pos h5] at h2;exact absurd h2 (by decide)
     ·exact List.prefix_append _ _
   ·exact absurd h2 (by decide)
  ·rename_i h2;exact absurd h h2
theorem op_pre (c:Cx) (k n:Int) (l:List V) (st:St) (h:(opM c k n l st).2.e=0):st.t <+: (opM c k n l st).2.t:=by
 unfold opM at *
 split at h
 ·rename_i hc;rw [if_pos hc];exact List.prefix_refl _
 ·rename_i hc
  rw [if_neg hc]
  cases ho:opS k (l.map Prod.fst) with
  | none=>rw [ho] at h;exact absurd (show(33:Int)=0 from h) (by decide)
  | some s=>rw [ho] at h;exact put_pre c _ st h
theorem diff_pre (c:Cx) (x y:V) (n:Int) (st:St) (h:(diffM c x y n st).2.e=0):st.t <+: (diffM c x y n st).2.t:=by
 unfold diffM at *
 split at h
 ·exact absurd (show(10:Int)=0 from h) (by decide)
 ·rename_i hc;rw [if_neg hc];exact op_pre c 12 n [x,y] st h
def MaS (d:Int) (s1 s2:St):Prop:=s2.e=0∧s1=shiftC d s2
def MaB (s1 s2:St):Prop:=s1.e=40∨s1.e=31∨(s1.e≠0∧s1.e=s2.e)
def MaR (_:List Node) (v w:V):Prop:=v=w
theorem pw_eq {t:List Node}:∀ {l m:List V},Pw (MaR t) l m→l=m
 | [],[],_=>rfl
 | v :: l,w :: m,h=>by obtain ⟨h1,h2⟩:=h;rw [show v=w from h1,pw_eq h2]
 | [],_ :: _,h=>h.elim
 | _ :: _,[],h=>h.elim
theorem ma_out {t:List Node} {p q:V × St} (h:p=(q.1,shiftC d q.2)) (ht:q.2.e=0→t <+: q.2.t):OutP (MaS d) MaB MaR t p q:=by
 subst h
 by_cases he:q.2.e=0
 ·exact .inl ⟨⟨he,rfl⟩,rfl,ht he⟩
 ·exact .inr (.inr (.inr ⟨he,rfl⟩))
theorem ma_mac {c:Cx} {s1 s2:St} (k:Nat) (m:Macro) {l1 l2:List V} (hd:0≤d) (hs:MaS d s1 s2) (hl:Pw (MaR s2.t) l1 l2)
  (hr:∀ {u1 u2 e1 e2},MaS d u1 u2→EnvP (MaR u2.t) e1 e2→OutP (MaS d) MaB MaR u2.t (termP c k m.body e1 u1) (termP c k m.body e2 u2)) :
  OutP (MaS d) MaB MaR s2.t (macroM c (termP c) m k l1 s1) (macroM c (termP c) m k l2 s2):=by
 obtain ⟨he,rfl⟩:=hs;obtain rfl:=pw_eq hl;unfold macroM;simp only;rw [sorts_shift];have hk:=sorts_keep l1 (m.params.map Param.sort) s2;generalize sortsM l1 (m.params.map Param.sort) s2=u at *
 by_cases h1:u.e≠0∨c.build=false
 ·rw [if_pos (show(shiftC d u).e≠0∨c.build=false from h1),if_pos h1];exact ma_out rfl fun _=>by show s2.t <+: u.t;rw [hk];exact List.prefix_refl _
 ·rw [if_neg (show ¬ ((shiftC d u).e≠0∨c.build=false) from h1),if_neg h1]
  by_cases h2:300 < (shiftC d u).calls+1
  ·rw [if_pos h2];exact .inr (.inl rfl)
  ·have h3:¬ 300 < u.calls+1:=fun h=>h2 (by show 300 < u.calls+d+1;omega);rw [if_neg h2,if_neg h3];have ho:=hr (u1:={ shiftC d u with calls:=(shiftC d u).calls+1 }) (u2:={ u with calls:=u.calls+1 }) (e1:=((m.params.map Param.name).zip l1).reverse) (e2:=((m.params.map Param.name).zip l1).reverse) ⟨by by_cases h:u.e=0;exact h;exact absurd (.inl h) h1,by show St.mk u.t (u.calls+d+1) u.e=St.mk u.t (u.calls+1+d) u.e;rw [Int.add_right_comm]⟩ (EnvP.reverse (EnvP.zip _ (by show Pw (MaR u.t) l1 l1;rw [hk];exact hl)));generalize termP c k m.body ((m.params.map Param.name).zip l1).reverse { shiftC d u with calls:=(shiftC d u).calls+1 }=p at *;generalize termP c k m.body ((m.params.map Param.name).zip l1).reverse { u with calls:=u.calls+1 }=q at *;rcases ho with⟨⟨q1,q2⟩,q3,q4⟩ | hB
   ·have hp:p=(q.1,shiftC d q.2):=by rw [← q2,← (show p.1=q.1 from q3)]
    subst hp;refine ma_out ?_ (fun h=>?_)
    ·show(if q.2.e=0∧q.1.1≠m.res then _ else _)=_
     split <;> rfl
    ·split at h
     ·exact absurd (show(33:Int)=0 from h) (by decide)
     ·rename_i hx;rw [if_neg hx];rw [← hk];exact q4
   ·have hp:¬ (p.2.e=0∧p.1.1≠m.res):=fun h=>by
     rcases hB with h5 | h5 | h5
     ·rw [h.1] at h5;exact absurd h5 (by decide)
     ·rw [h.1] at h5;exact absurd h5 (by decide)
     ·exact h5.1 h.1
    rw [if_neg hp];rcases hB with h5 | h5 | h5
    ·exact .inr (.inl h5)
    ·exact .inr (.inr (.inl h5))
    ·rw [if_neg (fun h=>h5.1 (h5.2.trans h.1))];exact .inr (.inr (.inr h5))
def simMac (c:Cx) (d:Int) (hd:0≤d):Sim c c where
 same:=rfl
 S:=MaS d
 B:=MaB
 R:=MaR
 N:=fun _=>True
 ok:=fun h=>⟨by rw [h.2];exact h.1,h.1⟩
 bad:=fun h h1 h2=>by
  rcases h with a | a | ⟨a,b⟩
  ·have e1:=h1 (by rw [a];decide);subst e1;exact .inl a
  ·have e1:=h1 (by rw [a];decide);subst e1;exact .inr (.inl a)
  ·have e1:=h1 a;have e2:=h2 (by rw [← b];exact a);subst e1 e2;exact .inr (.inr ⟨a,b⟩)
 bad_ne:=fun h=>by
  rcases h with a | a | ⟨a,_⟩
  ·left;rw [a];decide
  ·left;rw [a];decide
  ·exact .inl a
 mono:=fun h _=>h
 sort:=fun h=>by rw [show _=_ from h]
 zero:=trivial
 neg:=fun _=>trivial
 nought:=fun _=>rfl
 op:=fun {s1 s2} k n {l1 l2} hs hl _ _=>by
  obtain ⟨_,rfl⟩:=hs;obtain rfl:=pw_eq hl;exact ma_out (op_shift c k n l1 s2) (op_pre c k n l1 s2)
 diff:=fun {s1 s2} n {v1 v2 w1 w2} hs hv hw=>by
  obtain ⟨_,rfl⟩:=hs;obtain rfl:v1=v2:=hv;obtain rfl:w1=w2:=hw;exact ma_out (diff_shift c v1 w1 n s2) (diff_pre c v1 w1 n s2)
 number:=fun {s1 s2} {x} hs _ _=>by
  obtain ⟨he,rfl⟩:=hs;rw [number_shift]
  by_cases h:(numberM c x s2).2.e=0
  ·refine .inl ⟨⟨h,rfl⟩,?_,trivial⟩;unfold numberM
   cases numN x with
   | none=>rfl
   | some p =>
    show(if p.2≠0∧c.build=true then failS p.2 s2 else s2).t=s2.t
    split
    ·unfold failS;split <;> rfl
    ·rfl
  ·exact .inr (.inr (.inr ⟨h,rfl⟩))
 fail:=fun {s1 s2} e hs he=>by
  obtain ⟨h0,rfl⟩:=hs;rw [fail_shift];refine .inr (.inr ⟨?_,rfl⟩);show(failS e s2).e≠0;unfold failS;rw [if_pos h0];exact he
 app:=fun {s1 s2} k f {l1 l2} _ hs hl _ _=>by
  obtain ⟨_,rfl⟩:=hs;obtain rfl:=pw_eq hl;exact ma_out (put_shift c _ s2) (put_pre c _ s2)
 mac:=fun {s1 s2} k m {l1 l2} _ hs hl _ hr=>ma_mac k m hd hs hl hr
end Go.Proofs.YtpmdcckapddchaaGreat.El
