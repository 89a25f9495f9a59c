import Derived.Test.YtpmdcckapddchaaGreatDoorShort
import Derived.Test.YtpmdcckapddchaaGreatDoorMd
/- merged by wip/merge.py from: ElSim ElSim2 ElSim3 -/
set_option maxRecDepth 100000
set_option maxHeartbeats 51200000
namespace Go.Proofs.YtpmdcckapddchaaGreatDoor
namespace El
open Go.RowKit Dt Sg
def Pw (P:V->V->Prop):List V->List V->Prop
 | [],[]=>True
 | v :: l,w :: m=>P v w/\Pw P l m
 | _,_=>False
def EnvP (P:V->V->Prop):Env->Env->Prop
 | [],[]=>True
 | p :: l,q :: m=>p.1=q.1/\P p.2 q.2/\EnvP P l m
 | _,_=>False
section
variable {P Q:V->V->Prop}
theorem Pw.imp (h:∀ v w,P v w->Q v w):∀ {l m:List V},Pw P l m->Pw Q l m
 | [],[],_=>trivial
 | _ :: _,_ :: _,⟨a,b⟩=>⟨h _ _ a,Pw.imp h b⟩
 | [],_ :: _,h=>h.elim
 | _ :: _,[],h=>h.elim
theorem Pw.len:∀ {l m:List V},Pw P l m->l.length=m.length
 | [],[],_=>rfl
 | _ :: _,_ :: _,⟨_,b⟩=>by simp [Pw.len b]
 | [],_ :: _,h=>h.elim
 | _ :: _,[],h=>h.elim
theorem Pw.append:∀ {l m l' m':List V},Pw P l m->Pw P l' m'->Pw P (l ++ l') (m ++ m')
 | [],[],_,_,_,h=>h
 | _ :: _,_ :: _,_,_,⟨a,b⟩,h=>⟨a,Pw.append b h⟩
 | [],_ :: _,_,_,h,_=>h.elim
 | _ :: _,[],_,_,h,_=>h.elim
theorem Pw.reverse:∀ {l m:List V},Pw P l m->Pw P l.reverse m.reverse
 | [],[],_=>trivial
 | v :: l,w :: m,⟨a,b⟩=>by
  rw [List.reverse_cons,List.reverse_cons];exact(Pw.reverse b).append ⟨a,trivial⟩
 | [],_ :: _,h=>h.elim
 | _ :: _,[],h=>h.elim
theorem Pw.sorts (hP:∀ v w,P v w->v.1=w.1):∀ {l m:List V},Pw P l m->l.map Prod.fst=m.map Prod.fst
 | [],[],_=>rfl
 | _ :: _,_ :: _,⟨a,b⟩=>by simp [hP _ _ a,Pw.sorts hP b]
 | [],_ :: _,h=>h.elim
 | _ :: _,[],h=>h.elim
theorem Pw.head (h0:P v0 v0):∀ {l m:List V},Pw P l m->P (l.getD 0 v0) (m.getD 0 v0)
 | [],[],_=>h0
 | _ :: _,_ :: _,⟨a,_⟩=>a
 | [],_ :: _,h=>h.elim
 | _ :: _,[],h=>h.elim
theorem Pw.tail:∀ {l m:List V},Pw P l m->Pw P l.tail m.tail
 | [],[],_=>trivial
 | _ :: _,_ :: _,⟨_,b⟩=>b
 | [],_ :: _,h=>h.elim
 | _ :: _,[],h=>h.elim
theorem Pw.second (h0:P v0 v0) {l m:List V} (h:Pw P l m):P (l.getD 1 v0) (m.getD 1 v0):=by
 have:=h.tail.head h0
 cases l <;> cases m <;> first | exact h0 | exact h.elim | exact this
theorem EnvP.imp (h:∀ v w,P v w->Q v w):∀ {l m:Env},EnvP P l m->EnvP Q l m
 | [],[],_=>trivial
 | _ :: _,_ :: _,⟨e,a,b⟩=>⟨e,h _ _ a,EnvP.imp h b⟩
 | [],_ :: _,h=>h.elim
 | _ :: _,[],h=>h.elim
theorem EnvP.append:∀ {l m l' m':Env},EnvP P l m->EnvP P l' m'->EnvP P (l ++ l') (m ++ m')
 | [],[],_,_,_,h=>h
 | _ :: _,_ :: _,_,_,⟨e,a,b⟩,h=>⟨e,a,EnvP.append b h⟩
 | [],_ :: _,_,_,h,_=>h.elim
 | _ :: _,[],_,_,h,_=>h.elim
theorem EnvP.reverse:∀ {l m:Env},EnvP P l m->EnvP P l.reverse m.reverse
 | [],[],_=>trivial
 | v :: l,w :: m,⟨e,a,b⟩=>by
  rw [List.reverse_cons,List.reverse_cons];exact(EnvP.reverse b).append ⟨e,a,trivial⟩
 | [],_ :: _,h=>h.elim
 | _ :: _,[],h=>h.elim
theorem EnvP.zip:∀ (ns:List ByteArray) {l m:List V},Pw P l m->EnvP P (ns.zip l) (ns.zip m)
 | [],_,_,_=>by simp [EnvP]
 | n :: ns,[],[],_=>by simp [EnvP]
 | n :: ns,_ :: _,_ :: _,⟨a,b⟩=>⟨rfl,a,EnvP.zip ns b⟩
 | n :: ns,[],_ :: _,h=>h.elim
 | n :: ns,_ :: _,[],h=>h.elim
theorem EnvP.find (s:ByteArray):∀ {l m:Env},EnvP P l m->(findE l s=none/\findE m s=none)\/∃ v w,findE l s=some v/\findE m s=some w/\P v w
 | [],[],_=>.inl ⟨rfl,rfl⟩
 | p :: l,q :: m,⟨e,a,b⟩=>by
  by_cases h:p.1=s
  ·refine .inr ⟨p.2,q.2,?_,?_,a⟩
   ·unfold findE;simp [h]
   ·unfold findE;simp [← e,h]
  ·have:=EnvP.find s b;unfold findE at this ⊢
   simpa [h,← e] using this
 | [],_ :: _,h=>h.elim
 | _ :: _,[],h=>h.elim
end
def appN (c:Cx) (f:Fun4) (k:Nat) (l:List V) (st:St):V × St:=putM c ⟨13,f.len,nthN l 0,nthN l 1,nthN l 2,f.res,k,0⟩ st
def OutP (S B:St->St->Prop) (R:List Node->V->V->Prop) (t:List Node) (p q:V × St):Prop:=(S p.2 q.2/\R q.2.t p.1 q.1/\t <+: q.2.t)\/B p.2 q.2
structure Sim (c1 c2:Cx) where
 same:c1.g=c2.g
 S:St->St->Prop
 B:St->St->Prop
 R:List Node->V->V->Prop
 N:Int->Prop
 ok:∀ {s1 s2},S s1 s2->s1.e=0/\s2.e=0
 bad:∀ {s1 s2 t1 t2},B s1 s2->(s1.e≠0->t1=s1)->(s2.e≠0->t2=s2)->B t1 t2
 bad_ne:∀ {s1 s2},B s1 s2->s1.e≠0\/s2.e≠0
 mono:∀ {t t' v w},R t v w->t <+: t'->R t' v w
 sort:∀ {t v w},R t v w->v.1=w.1
 zero:N 0
 neg:∀ {n},N n->N (-n)
 nought:∀ {s1 s2},S s1 s2->R s2.t v0 v0
 op:∀ {s1 s2} (k n:Int) {l1 l2},S s1 s2->Pw (R s2.t) l1 l2->N n->(n=0\/k=10\/k=11\/k=12)->(S (opM c1 k n l1 s1).2 (opM c2 k n l2 s2).2/\R (opM c2 k n l2 s2).2.t (opM c1 k n l1 s1).1 (opM c2 k n l2 s2).1/\s2.t <+: (opM c2 k n l2 s2).2.t)\/B (opM c1 k n l1 s1).2 (opM c2 k n l2 s2).2
 diff:∀ {s1 s2} (n:Int) {v1 v2 w1 w2},S s1 s2->R s2.t v1 v2->R s2.t w1 w2->(S (diffM c1 v1 w1 n s1).2 (diffM c2 v2 w2 n s2).2/\R (diffM c2 v2 w2 n s2).2.t (diffM c1 v1 w1 n s1).1 (diffM c2 v2 w2 n s2).1/\s2.t <+: (diffM c2 v2 w2 n s2).2.t)\/B (diffM c1 v1 w1 n s1).2 (diffM c2 v2 w2 n s2).2
 number:∀ {s1 s2} {x:Sexp},S s1 s2->x.stands=true->isNumX x=true->(S (numberM c1 x s1).2 (numberM c2 x s2).2/\(numberM c2 x s2).2.t=s2.t/\N (numberM c1 x s1).1)\/B (numberM c1 x s1).2 (numberM c2 x s2).2
 fail:∀ {s1 s2} (e:Int),S s1 s2->e≠0->B (failS e s1) (failS e s2)
 app:∀ {s1 s2} (k:Nat) (f:Fun4) {l1 l2},c2.g.funs[k]?=some f->S s1 s2->Pw (R s2.t) l1 l2->(l2.length:Int)=f.len->sortsM l2 [f.a0,f.a1,f.a2] s2=s2->OutP S B R s2.t (appN c1 f k l1 s1) (appN c2 f k l2 s2)
 mac:∀ {s1 s2} (k:Nat) (m:Macro) {l1 l2},c2.g.macros[k]?=some m->S s1 s2->Pw (R s2.t) l1 l2->l2.length=m.params.length->(∀ {u1 u2 e1 e2},S u1 u2->EnvP (R u2.t) e1 e2->OutP S B R u2.t (termP c1 k m.body e1 u1) (termP c2 k m.body e2 u2))->OutP S B R s2.t (macroM c1 (termP c1) m k l1 s1) (macroM c2 (termP c2) m k l2 s2)
section
variable {c1 c2:Cx}
def Sim.Out (M:Sim c1 c2) (t:List Node) (p q:V × St):Prop:=(M.S p.2 q.2/\M.R q.2.t p.1 q.1/\t <+: q.2.t)\/M.B p.2 q.2
def Sim.OutL (M:Sim c1 c2) (t:List Node) (p q:List V × St):Prop:=(M.S p.2 q.2/\Pw (M.R q.2.t) p.1 q.1/\t <+: q.2.t)\/M.B p.2 q.2
theorem Sim.Out.wide {M:Sim c1 c2} {t u:List Node} {p q:V × St} (h:M.Out u p q) (ht:t <+: u):M.Out t p q:=h.imp_left fun h=>⟨h.1,h.2.1,ht.trans h.2.2⟩
theorem Sim.OutL.wide {M:Sim c1 c2} {t u:List Node} {p q:List V × St} (h:M.OutL u p q) (ht:t <+: u):M.OutL t p q:=h.imp_left fun h=>⟨h.1,h.2.1,ht.trans h.2.2⟩
theorem Sim.pw (M:Sim c1 c2) {t u:List Node} {l m:List V} (h:Pw (M.R t) l m) (ht:t <+: u):Pw (M.R u) l m:=h.imp fun _ _ h=>M.mono h ht
theorem Sim.env (M:Sim c1 c2) {t u:List Node} {l m:Env} (h:EnvP (M.R t) l m) (ht:t <+: u):EnvP (M.R u) l m:=h.imp fun _ _ h=>M.mono h ht
theorem op_stick (c:Cx) (k n:Int) (l:List V) (st:St) (h:st.e≠0):opM c k n l st=(v0,st):=by unfold opM;rw [if_pos h]
theorem fail_stick (e:Int) (st:St) (h:st.e≠0):failS e st=st:=by unfold failS;rw [if_neg h]
theorem put_stick (c:Cx) (n:Node) (st:St) (h:st.e≠0):(putM c n st).2=st:=by unfold putM;rw [if_pos (.inl h)]
theorem number_stick (c:Cx) (x:Sexp) (st:St) (h:st.e≠0):(numberM c x st).2=st:=by
 unfold numberM
 split
 ·rfl
 ·simp only;split
  ·exact fail_stick _ _ h
  ·rfl
theorem sorts_stick:∀ (l:List V) (q:List Int) (st:St),st.e≠0->sortsM l q st=st
 | [],_,st,_=>by unfold sortsM;rfl
 | _ :: _,[],st,_=>by unfold sortsM;rfl
 | v :: l,s :: q,st,h=>by unfold sortsM;rw [if_neg (by simp [h])];exact sorts_stick l q st h
theorem all_stick {r:Sexp->St->V × St} (hr:∀ y st,st.e≠0->(r y st).2=st):∀ (l:List Sexp) (st:St),st.e≠0->(allM r l st).2=st
 | [],_,_=>rfl
 | x :: l,st,h=>by
  unfold allM;show(allM r l (r x st).2).2=st;rw [hr x st h];exact all_stick hr l st h
theorem left_stick (c:Cx) (k:Int):∀ (l:List V) (v:V) (st:St),st.e≠0->(leftM c k v l st).2=st
 | [],_,_,_=>rfl
 | x :: l,v,st,h=>by
  unfold leftM;rw [op_stick _ _ _ _ _ h];exact left_stick c k l _ st h
theorem imp_stick (c:Cx):∀ (l:List V) (v:V) (st:St),st.e≠0->(impM c v l st).2=st
 | [],_,_,_=>rfl
 | x :: l,v,st,h=>by
  unfold impM;rw [op_stick _ _ _ _ _ h];exact imp_stick c l _ st h
theorem eqs_stick (c:Cx):∀ (l:List V) (v:V) (st:St),st.e≠0->(eqsM c v l st).2=st
 | [],_,_,_=>rfl
 | x :: l,v,st,h=>by
  unfold eqsM;simp only [op_stick _ _ _ _ _ h];exact eqs_stick c l _ st h
theorem neqs_stick (c:Cx) (v:V):∀ (l:List V) (st:St),st.e≠0->(neqsM c v l st).2=st
 | [],_,_=>rfl
 | x :: l,st,h=>by
  unfold neqsM;simp only [op_stick _ _ _ _ _ h];exact neqs_stick c v l st h
theorem distinct_stick (c:Cx):∀ (l:List V) (st:St),st.e≠0->(distinctL c l st).2=st
 | [],_,_=>rfl
 | v :: l,st,h=>by
  unfold distinctL;simp only [neqs_stick c v l st h];exact distinct_stick c l st h
theorem term_stick (c:Cx) (known:Nat) (x:Sexp) (env:Env) (st:St) (h:st.e≠0):(termP c known x env st).2=st:=by
 rw [termP_eq];unfold termStep;rw [if_pos h]
variable (M:Sim c1 c2)
theorem left_sim (k:Int):∀ {l1 l2:List V} {x y:V} {s1 s2:St},M.S s1 s2->M.R s2.t x y->Pw (M.R s2.t) l1 l2->M.Out s2.t (leftM c1 k x l1 s1) (leftM c2 k y l2 s2)
 | [],[],_,_,_,_,hs,hx,_=>.inl ⟨hs,hx,List.prefix_refl _⟩
 | a :: l1,b :: l2,x,y,s1,s2,hs,hx,⟨ha,hl⟩=>by
  unfold leftM;rcases M.op k 0 (l1:=[x,a]) (l2:=[y,b]) hs ⟨hx,ha,trivial⟩ M.zero (.inl rfl) with⟨h1,h2,h3⟩ | h
  ·exact(left_sim k h1 h2 (M.pw hl h3)).wide h3
  ·exact .inr (M.bad h (left_stick _ _ _ _ _) (left_stick _ _ _ _ _))
 | [],_ :: _,_,_,_,_,_,_,h=>h.elim
 | _ :: _,[],_,_,_,_,_,_,h=>h.elim
theorem imp_sim:∀ {l1 l2:List V} {x y:V} {s1 s2:St},M.S s1 s2->M.R s2.t x y->Pw (M.R s2.t) l1 l2->M.Out s2.t (impM c1 x l1 s1) (impM c2 y l2 s2)
 | [],[],_,_,_,_,hs,hx,_=>.inl ⟨hs,hx,List.prefix_refl _⟩
 | a :: l1,b :: l2,x,y,s1,s2,hs,hx,⟨ha,hl⟩=>by
  unfold impM;rcases M.op 5 0 (l1:=[a,x]) (l2:=[b,y]) hs ⟨ha,hx,trivial⟩ M.zero (.inl rfl) with⟨h1,h2,h3⟩ | h
  ·exact(imp_sim h1 h2 (M.pw hl h3)).wide h3
  ·exact .inr (M.bad h (imp_stick _ _ _ _) (imp_stick _ _ _ _))
 | [],_ :: _,_,_,_,_,_,_,h=>h.elim
 | _ :: _,[],_,_,_,_,_,_,h=>h.elim
theorem eqs_sim:∀ {l1 l2:List V} {x y:V} {s1 s2:St},M.S s1 s2->M.R s2.t x y->Pw (M.R s2.t) l1 l2->M.OutL s2.t (eqsM c1 x l1 s1) (eqsM c2 y l2 s2)
 | [],[],_,_,_,_,hs,_,_=>.inl ⟨hs,trivial,List.prefix_refl _⟩
 | a :: l1,b :: l2,x,y,s1,s2,hs,hx,⟨ha,hl⟩=>by
  unfold eqsM;rcases M.op 6 0 (l1:=[x,a]) (l2:=[y,b]) hs ⟨hx,ha,trivial⟩ M.zero (.inl rfl) with⟨h1,h2,h3⟩ | h
  ·rcases eqs_sim h1 (M.mono ha h3) (M.pw hl h3) with⟨k1,k2,k3⟩ | k
   ·exact .inl ⟨k1,⟨M.mono h2 k3,k2⟩,h3.trans k3⟩
   ·exact .inr k
  ·exact .inr (M.bad h (eqs_stick _ _ _ _) (eqs_stick _ _ _ _))
 | [],_ :: _,_,_,_,_,_,_,h=>h.elim
 | _ :: _,[],_,_,_,_,_,_,h=>h.elim
theorem neqs_sim:∀ {l1 l2:List V} {x y:V} {s1 s2:St},M.S s1 s2->M.R s2.t x y->Pw (M.R s2.t) l1 l2->M.OutL s2.t (neqsM c1 x l1 s1) (neqsM c2 y l2 s2)
 | [],[],_,_,_,_,hs,_,_=>.inl ⟨hs,trivial,List.prefix_refl _⟩
 | a :: l1,b :: l2,x,y,s1,s2,hs,hx,⟨ha,hl⟩=>by
  unfold neqsM;rcases M.op 6 0 (l1:=[x,a]) (l2:=[y,b]) hs ⟨hx,ha,trivial⟩ M.zero (.inl rfl) with⟨h1,h2,h3⟩ | h
  ·rcases M.op 1 0 (l1:=[_]) (l2:=[_]) h1 ⟨h2,trivial⟩ M.zero (.inl rfl) with⟨i1,i2,i3⟩ | i
   ·rcases neqs_sim i1 (M.mono hx (h3.trans i3)) (M.pw hl (h3.trans i3)) with⟨k1,k2,k3⟩ | k
    ·exact .inl ⟨k1,⟨M.mono i2 k3,k2⟩,(h3.trans i3).trans k3⟩
    ·exact .inr k
   ·exact .inr (M.bad i (neqs_stick _ _ _ _) (neqs_stick _ _ _ _))
  ·refine .inr (M.bad h (fun h=>?_) (fun h=>?_))
   ·show(neqsM _ _ _ _).2=_;rw [op_stick _ 1 _ _ _ h];exact neqs_stick _ _ _ _ h
   ·show(neqsM _ _ _ _).2=_;rw [op_stick _ 1 _ _ _ h];exact neqs_stick _ _ _ _ h
 | [],_ :: _,_,_,_,_,_,_,h=>h.elim
 | _ :: _,[],_,_,_,_,_,_,h=>h.elim
theorem distinct_sim:∀ {l1 l2:List V} {s1 s2:St},M.S s1 s2->Pw (M.R s2.t) l1 l2->M.OutL s2.t (distinctL c1 l1 s1) (distinctL c2 l2 s2)
 | [],[],_,_,hs,_=>.inl ⟨hs,trivial,List.prefix_refl _⟩
 | a :: l1,b :: l2,s1,s2,hs,⟨ha,hl⟩=>by
  unfold distinctL;rcases neqs_sim M hs ha hl with⟨h1,h2,h3⟩ | h
  ·rcases distinct_sim h1 (M.pw hl h3) with⟨k1,k2,k3⟩ | k
   ·exact .inl ⟨k1,(M.pw h2 k3).append k2,h3.trans k3⟩
   ·exact .inr k
  ·exact .inr (M.bad h (distinct_stick _ _ _) (distinct_stick _ _ _))
 | [],_ :: _,_,_,_,h=>h.elim
 | _ :: _,[],_,_,_,h=>h.elim
theorem head_sim (k:Int) {l1 l2:List V} {s1 s2:St} (hs:M.S s1 s2) (hl:Pw (M.R s2.t) l1 l2):M.Out s2.t (headM c1 k l1 s1) (headM c2 k l2 s2):=left_sim M k hs (hl.head (M.nought hs)) hl.tail
theorem alike_sim {t:List Node} {l1 l2:List V} (h:Pw (M.R t) l1 l2):alikeB l1=alikeB l2:=by
 have hm:=h.sorts (fun _ _ h=>M.sort h)
 have hd:∀ l:List V,alikeB l=(l.map Prod.fst).all fun s=>s == (l.map Prod.fst).getD 0 0:=fun l=>by
  unfold alikeB;rw [List.all_map]
  cases l <;> rfl
 rw [hd,hd,hm]
end
end El
namespace El
open Go.RowKit Dt Sg
section
variable {c1 c2:Cx} (M:Sim c1 c2)
theorem head_stick (c:Cx) (k:Int) (l:List V) (st:St) (h:st.e≠0):(headM c k l st).2=st:=left_stick c k _ _ st h
theorem equal_sim {l1 l2:List V} {s1 s2:St} (hs:M.S s1 s2) (hl:Pw (M.R s2.t) l1 l2):M.Out s2.t (equalM c1 l1 s1) (equalM c2 l2 s2):=by
 unfold equalM;rw [alike_sim M hl]
 cases alikeB l2 with
 | true =>
  simp only [if_true];rw [if_neg (by simp [(M.ok hs).1]),if_neg (by simp [(M.ok hs).2])];rcases eqs_sim M hs (hl.head (M.nought hs)) hl.tail with⟨h1,h2,h3⟩ | h
  ·exact(head_sim M 2 h1 h2).wide h3
  ·exact .inr (M.bad h (head_stick _ _ _ _) (head_stick _ _ _ _))
 | false =>
  simp only [if_false,Bool.false_eq_true];have e1:(failS 33 s1).e≠0:=by unfold failS;rw [if_pos (M.ok hs).1];show(33:Int)≠0;decide
  have e2:(failS 33 s2).e≠0:=by unfold failS;rw [if_pos (M.ok hs).2];show(33:Int)≠0;decide
  rw [if_pos e1,if_pos e2];exact .inr (M.fail 33 hs (by decide))
theorem distinctM_sim {l1 l2:List V} {s1 s2:St} (hs:M.S s1 s2) (hl:Pw (M.R s2.t) l1 l2):M.Out s2.t (distinctM c1 l1 s1) (distinctM c2 l2 s2):=by
 unfold distinctM;rw [alike_sim M hl]
 cases alikeB l2 with
 | true =>
  simp only [if_true];rw [if_neg (by simp [(M.ok hs).1]),if_neg (by simp [(M.ok hs).2])];rcases distinct_sim M hs hl with⟨h1,h2,h3⟩ | h
  ·exact(head_sim M 2 h1 h2).wide h3
  ·exact .inr (M.bad h (head_stick _ _ _ _) (head_stick _ _ _ _))
 | false =>
  simp only [if_false,Bool.false_eq_true];have e1:(failS 33 s1).e≠0:=by unfold failS;rw [if_pos (M.ok hs).1];show(33:Int)≠0;decide
  have e2:(failS 33 s2).e≠0:=by unfold failS;rw [if_pos (M.ok hs).2];show(33:Int)≠0;decide
  rw [if_pos e1,if_pos e2];exact .inr (M.fail 33 hs (by decide))
theorem make_sim (way:Nat) {l1 l2:List V} {s1 s2:St} (hs:M.S s1 s2) (hl:Pw (M.R s2.t) l1 l2):M.Out s2.t (makeM c1 way l1 s1) (makeM c2 way l2 s2):=by
 have hz:=M.nought hs;have h2:Pw (M.R s2.t) [l1.getD 1 v0,l1.getD 0 v0] [l2.getD 1 v0,l2.getD 0 v0]:=⟨hl.second hz,hl.head hz,trivial⟩
 have e11:∀ (c:Cx) (n:Nat) (l:List V) (st:St),makeM c (n+11) l st=opM c 9 0 [l.getD 1 v0,l.getD 0 v0] st:=fun c n l st=>by
  unfold makeM;iterate 11 rw [if_neg (by omega)]
 match way with
 | 0=>exact M.op 1 0 hs hl M.zero (.inl rfl)
 | 1=>exact head_sim M 2 hs hl
 | 2=>exact head_sim M 3 hs hl
 | 3=>exact head_sim M 4 hs hl
 | 4=>exact imp_sim M hs (hl.reverse.head hz) hl.reverse.tail
 | 5=>exact equal_sim M hs hl
 | 6=>exact distinctM_sim M hs hl
 | 7=>exact M.op 7 0 hs hl M.zero (.inl rfl)
 | 8=>exact M.op 8 0 hs hl M.zero (.inl rfl)
 | 9=>exact M.op 9 0 hs hl M.zero (.inl rfl)
 | 10=>exact M.op 8 0 hs h2 M.zero (.inl rfl)
 | n+11=>rw [e11,e11];exact M.op 9 0 hs h2 M.zero (.inl rfl)
theorem diff_stick (c:Cx) (x y:V) (n:Int) (st:St) (h:st.e≠0):(diffM c x y n st).2=st:=by
 unfold diffM;rw [if_neg (by simp [h]),op_stick _ _ _ _ _ h]
theorem held_stick (c:Cx) (name:ByteArray) (a b:V) (n:Int) (st:St) (h:st.e≠0):(heldM c name a b n st).2=st:=by
 unfold heldM
 repeat' split
 ·exact diff_stick _ _ _ _ _ h
 ·exact diff_stick _ _ _ _ _ h
 ·exact diff_stick _ _ _ _ _ h
 ·exact diff_stick _ _ _ _ _ h
 ·simp only [diff_stick _ _ _ _ _ h,op_stick _ _ _ _ _ h]
theorem held_sim (name:ByteArray) (n:Int) {a1 a2 b1 b2:V} {s1 s2:St} (hs:M.S s1 s2) (ha:M.R s2.t a1 a2) (hb:M.R s2.t b1 b2):M.Out s2.t (heldM c1 name a1 b1 n s1) (heldM c2 name a2 b2 n s2):=by
 unfold heldM
 split
 ·exact M.diff _ hs ha hb
 split
 ·exact M.diff _ hs ha hb
 split
 ·exact M.diff _ hs hb ha
 split
 ·exact M.diff _ hs hb ha
 ·rcases M.diff n hs ha hb with⟨h1,h2,h3⟩ | h
  ·rcases M.diff (-n) h1 (M.mono hb h3) (M.mono ha h3) with⟨i1,i2,i3⟩ | i
   ·exact Sim.Out.wide (M:=M) (M.op 2 0 i1 ⟨M.mono h2 i3,i2,trivial⟩ M.zero (.inl rfl)) (h3.trans i3)
   ·refine .inr (M.bad i (fun h=>?_) (fun h=>?_))
    ·show(opM _ _ _ _ _).2=_;rw [op_stick _ _ _ _ _ h]
    ·show(opM _ _ _ _ _).2=_;rw [op_stick _ _ _ _ _ h]
  ·refine .inr (M.bad h (fun h=>?_) (fun h=>?_))
   ·show(opM _ _ _ _ (diffM _ _ _ _ _).2).2=_;rw [diff_stick _ _ _ _ _ h,op_stick _ _ _ _ _ h]
   ·show(opM _ _ _ _ (diffM _ _ _ _ _).2).2=_;rw [diff_stick _ _ _ _ _ h,op_stick _ _ _ _ _ h]
theorem sorts_sim:∀ {l1 l2:List V} (q:List Int) {s1 s2:St},M.S s1 s2->Pw (M.R s2.t) l1 l2->(M.S (sortsM l1 q s1) (sortsM l2 q s2)/\sortsM l1 q s1=s1/\sortsM l2 q s2=s2)\/M.B (sortsM l1 q s1) (sortsM l2 q s2)
 | [],[],_,_,_,hs,_=>by unfold sortsM;exact .inl ⟨hs,rfl,rfl⟩
 | _ :: _,_ :: _,[],_,_,hs,_=>by unfold sortsM;exact .inl ⟨hs,rfl,rfl⟩
 | a :: l1,b :: l2,s :: q,s1,s2,hs,⟨ha,hl⟩=>by
  unfold sortsM;have hab:=M.sort ha;have e1:=(M.ok hs).1;have e2:=(M.ok hs).2
  by_cases h:a.1=s
  ·rw [if_neg (by simp [h]),if_neg (by simp [← hab,h])];exact sorts_sim q hs hl
  ·rw [if_pos ⟨e1,h⟩,if_pos ⟨e2,by rw [← hab];exact h⟩]
   have hb:M.B { s1 with e:=33 } { s2 with e:=33 }:=by
    have:=M.fail 33 hs (by decide);unfold failS at this
    rwa [if_pos e1,if_pos e2] at this
   exact .inr (M.bad hb (fun h=>sorts_stick _ _ _ h) (fun h=>sorts_stick _ _ _ h))
 | [],_ :: _,_,_,_,_,h=>h.elim
 | _ :: _,[],_,_,_,_,h=>h.elim
variable {r1 r2:Sexp->St->V × St}
def Sim.Each (M:Sim c1 c2) (r1 r2:Sexp->St->V × St) (t:List Node) (y:Sexp):Prop:=∀ s1 s2,M.S s1 s2->t <+: s2.t->M.Out s2.t (r1 y s1) (r2 y s2)
theorem all_sim (k1:∀ y st,st.e≠0->(r1 y st).2=st) (k2:∀ y st,st.e≠0->(r2 y st).2=st) {t:List Node}:∀ {l:List Sexp} {s1 s2:St},M.S s1 s2->t <+: s2.t->(∀ y ∈ l,M.Each r1 r2 t y)->M.OutL s2.t (allM r1 l s1) (allM r2 l s2)
 | [],_,_,hs,_,_=>.inl ⟨hs,trivial,List.prefix_refl _⟩
 | y :: l,s1,s2,hs,ht,hr=>by
  unfold allM;rcases hr y (by simp) s1 s2 hs ht with⟨h1,h2,h3⟩ | h
  ·rcases all_sim k1 k2 (l:=l) h1 (ht.trans h3) (fun y hy=>hr y (by simp [hy])) with⟨i1,i2,i3⟩ | i
   ·exact .inl ⟨i1,⟨M.mono h2 i3,i2⟩,h3.trans i3⟩
   ·exact .inr i
  ·exact .inr (M.bad h (all_stick k1 _ _) (all_stick k2 _ _))
theorem sum_sim (k1:∀ y st,st.e≠0->(r1 y st).2=st) (k2:∀ y st,st.e≠0->(r2 y st).2=st) (name:ByteArray) {x:Sexp} {s1 s2:St} (hs:M.S s1 s2) (hsub:∀ i,isNumX (nthX x i)=true->(nthX x i).stands=true) (hr:∀ i,i=1\/i=2->x.l.length=3\/x.l.length=2/\i=1->M.Each r1 r2 s2.t (nthX x i)) (hra:∀ y ∈ x.l.tail,M.Each r1 r2 s2.t y) :
  M.Out s2.t (sumM c1 r1 name x s1) (sumM c2 r2 name x s2):=by
 have hp:=List.prefix_refl s2.t;unfold sumM
 split
 ·rename_i h
  rcases hr 1 (.inl rfl) (.inr ⟨h.1,rfl⟩) s1 s2 hs hp with⟨h1,h2,h3⟩ | h
  ·exact .inr (M.fail 34 h1 (by decide))
  ·exact .inr (M.bad h (fail_stick 34 _) (fail_stick 34 _))
 split
 ·exact .inr (M.fail 30 hs (by decide))
 rename_i hl
 have hl:x.l.length=3:=Decidable.not_not.1 hl
 split
 ·rename_i hn
  rcases hr 1 (.inl rfl) (.inl hl) s1 s2 hs hp with⟨h1,h2,h3⟩ | h
  ·have he:(numberM c1 (nthX x 2) (r1 (nthX x 1) s1).2).1=(numberM c2 (nthX x 2) (r2 (nthX x 1) s2).2).1:=by
    unfold numberM;split <;> rfl
   simp only [← he];rcases M.number h1 (hsub 2 hn) hn with⟨i1,i2,i3⟩ | i
   ·refine Sim.Out.wide (M:=M) (M.op 11 _ i1 (l1:=[_]) (l2:=[_]) ⟨by rw [i2];exact h2,trivial⟩ ?_ (.inr (.inr (.inl rfl)))) (by rw [i2];exact h3)
    split
    ·exact M.neg i3
    ·exact i3
   ·refine .inr (M.bad i (fun h=>?_) (fun h=>?_))
    ·rw [op_stick _ _ _ _ _ h]
    ·rw [op_stick _ _ _ _ _ h]
  ·refine .inr (M.bad h (fun h=>?_) (fun h=>?_))
   ·show(opM _ _ _ _ (numberM _ _ _).2).2=_;rw [number_stick _ _ _ h,op_stick _ _ _ _ _ h]
   ·show(opM _ _ _ _ (numberM _ _ _).2).2=_;rw [number_stick _ _ _ h,op_stick _ _ _ _ _ h]
 split
 ·rename_i hn
  have he:(numberM c1 (nthX x 1) s1).1=(numberM c2 (nthX x 1) s2).1:=by unfold numberM;split <;> rfl
  simp only [← he];rcases M.number hs (hsub 1 hn.2) hn.2 with⟨i1,i2,i3⟩ | i
  ·rcases hr 2 (.inr rfl) (.inl hl) _ _ i1 (by rw [i2];exact hp) with⟨h1,h2,h3⟩ | h
   ·exact Sim.Out.wide (M:=M) (M.op 11 _ h1 (l1:=[_]) (l2:=[_]) ⟨h2,trivial⟩ i3 (.inr (.inr (.inl rfl)))) (by rw [i2] at h3;exact h3)
   ·refine .inr (M.bad h (fun h=>?_) (fun h=>?_))
    ·rw [op_stick _ _ _ _ _ h]
    ·rw [op_stick _ _ _ _ _ h]
  ·refine .inr (M.bad i (fun h=>?_) (fun h=>?_))
   ·show(opM _ _ _ _ (r1 _ (numberM _ _ _).2).2).2=_;rw [k1 _ _ h,op_stick _ _ _ _ _ h]
   ·show(opM _ _ _ _ (r2 _ (numberM _ _ _).2).2).2=_;rw [k2 _ _ h,op_stick _ _ _ _ _ h]
 ·rcases all_sim M k1 k2 hs hp hra with⟨h1,h2,h3⟩ | h
  ·exact .inr (M.fail 34 h1 (by decide))
  ·exact .inr (M.bad h (fail_stick 34 _) (fail_stick 34 _))
end
end El
namespace El
open Go.RowKit Dt Sg
theorem l_stands {x:Sexp} (h:x.stands=true):∀ y ∈ x.l,y.stands=true:=by
 intro y hy;rw [Sexp.stands_eq] at h
 have hno:x.l.isEmpty=true->False:=fun e=>by
  rw [List.isEmpty_iff] at e;rw [e] at hy
  cases hy
 split at h
 ·rw [Bool.and_eq_true] at h;exact(hno h.1).elim
 split at h
 ·rw [Bool.and_eq_true] at h;exact(hno h.1).elim
 split at h
 ·rw [Bool.and_eq_true] at h;exact(hno h.1).elim
 split at h
 ·rw [Bool.and_eq_true,Sexp.standsL_all,List.all_eq_true] at h;exact h.2 y hy
 ·cases h
theorem nth_stands {x:Sexp} (h:x.stands=true) (i:Nat):(nthX x i).stands=true:=by
 unfold nthX;rw [List.getD_eq_getElem?_getD]
 cases hy:x.l[i]? with
 | none=>show(Sexp.mk 0 { data:=#[] } []).stands=true;decide +kernel
 | some y=>exact l_stands h y (mgq hy)
theorem second_stands {x:Sexp} (h:x.stands=true):(secondX x).stands=true:=nth_stands h 1
section
variable {c1 c2:Cx} (M:Sim c1 c2)
variable {r1 r2:Sexp->St->V × St}
theorem number_same (c1 c2:Cx) (x:Sexp) (s1 s2:St):(numberM c1 x s1).1=(numberM c2 x s2).1:=by unfold numberM;split <;> rfl
theorem diffL_sim (k1:∀ y st,st.e≠0->(r1 y st).2=st) (k2:∀ y st,st.e≠0->(r2 y st).2=st) (name:ByteArray) {x:Sexp} {s1 s2:St} (hs:M.S s1 s2) (hn:isNumX (nthX x 2)=true) (hst:(nthX x 2).stands=true)
  (ha:M.Each r1 r2 s2.t (nthX (nthX x 1) 1)) (hb:M.Each r1 r2 s2.t (nthX (nthX x 1) 2)):M.Out s2.t (diffLM c1 r1 name x s1) (diffLM c2 r2 name x s2):=by
 have hp:=List.prefix_refl s2.t;unfold diffLM;simp only;rcases ha s1 s2 hs hp with⟨a1,a2,a3⟩ | h
 ·rcases hb _ _ a1 a3 with⟨b1,b2,b3⟩ | h
  ·rw [number_same c1 c2 (nthX x 2) _ (r2 (nthX (nthX x 1) 2) (r2 (nthX (nthX x 1) 1) s2).2).2];rcases M.number b1 hst hn with⟨i1,i2,i3⟩ | i
   ·exact Sim.Out.wide (M:=M) (held_sim M name _ i1 (M.mono a2 (by rw [i2];exact b3)) (by rw [i2];exact b2)) (by rw [i2];exact a3.trans b3)
   ·exact .inr (M.bad i (held_stick _ _ _ _ _ _) (held_stick _ _ _ _ _ _))
  ·refine .inr (M.bad h (fun h=>?_) (fun h=>?_))
   ·show(heldM _ _ _ _ _ (numberM _ _ _).2).2=_;rw [number_stick _ _ _ h,held_stick _ _ _ _ _ _ h]
   ·show(heldM _ _ _ _ _ (numberM _ _ _).2).2=_;rw [number_stick _ _ _ h,held_stick _ _ _ _ _ _ h]
 ·refine .inr (M.bad h (fun h=>?_) (fun h=>?_))
  ·show(heldM _ _ _ _ _ (numberM _ _ (r1 _ (r1 _ s1).2).2).2).2=_;rw [k1 _ _ h,number_stick _ _ _ h,held_stick _ _ _ _ _ _ h]
  ·show(heldM _ _ _ _ _ (numberM _ _ (r2 _ (r2 _ s2).2).2).2).2=_;rw [k2 _ _ h,number_stick _ _ _ h,held_stick _ _ _ _ _ _ h]
theorem diffR_sim (k1:∀ y st,st.e≠0->(r1 y st).2=st) (k2:∀ y st,st.e≠0->(r2 y st).2=st) (name:ByteArray) {x:Sexp} {s1 s2:St} (hs:M.S s1 s2) (hn:isNumX (nthX x 1)=true) (hst:(nthX x 1).stands=true)
  (ha:M.Each r1 r2 s2.t (nthX (nthX x 2) 1)) (hb:M.Each r1 r2 s2.t (nthX (nthX x 2) 2)):M.Out s2.t (diffRM c1 r1 name x s1) (diffRM c2 r2 name x s2):=by
 have hp:=List.prefix_refl s2.t;unfold diffRM;simp only;rw [number_same c1 c2 (nthX x 1) s1 s2];rcases M.number hs hst hn with⟨i1,i2,i3⟩ | h
 ·rcases ha _ _ i1 (by rw [i2];exact hp) with⟨a1,a2,a3⟩ | h
  ·rw [i2] at a3;rcases hb _ _ a1 a3 with⟨b1,b2,b3⟩ | h
   ·exact Sim.Out.wide (M:=M) (held_sim M (turnN name) _ b1 (M.mono a2 b3) b2) (a3.trans b3)
   ·exact .inr (M.bad h (held_stick _ _ _ _ _ _) (held_stick _ _ _ _ _ _))
  ·refine .inr (M.bad h (fun h=>?_) (fun h=>?_))
   ·show(heldM _ _ _ _ _ (r1 _ _).2).2=_;rw [k1 _ _ h,held_stick _ _ _ _ _ _ h]
   ·show(heldM _ _ _ _ _ (r2 _ _).2).2=_;rw [k2 _ _ h,held_stick _ _ _ _ _ _ h]
 ·refine .inr (M.bad h (fun h=>?_) (fun h=>?_))
  ·show(heldM _ _ _ _ _ (r1 _ (r1 _ (numberM _ _ _).2).2).2).2=_;rw [k1 _ _ h,k1 _ _ h,held_stick _ _ _ _ _ _ h]
  ·show(heldM _ _ _ _ _ (r2 _ (r2 _ (numberM _ _ _).2).2).2).2=_;rw [k2 _ _ h,k2 _ _ h,held_stick _ _ _ _ _ _ h]
theorem apply_sim (k1:∀ y st,st.e≠0->(r1 y st).2=st) (k2:∀ y st,st.e≠0->(r2 y st).2=st) (k:Nat) (f:Fun4) (hf:c2.g.funs[k]?=some f) {l:List Sexp} {s1 s2:St} (hs:M.S s1 s2) (hl:∀ y ∈ l,M.Each r1 r2 s2.t y) :
  M.Out s2.t (applyM c1 r1 f k l s1) (applyM c2 r2 f k l s2):=by
 unfold applyM
 split
 ·exact .inr (M.fail 30 hs (by decide))
 rename_i hlen
 have hlen:(l.length:Int)=f.len:=Decidable.not_not.1 hlen
 have hal:∀ (r:Sexp->St->V × St) (l:List Sexp) (st:St),(allM r l st).1.length=l.length:=by
  intro r l
  induction l with
  | nil=>intro st;rfl
  | cons y l ih=>intro st;unfold allM;simp [ih]
 simp only;rcases all_sim M k1 k2 hs (List.prefix_refl _) hl with⟨h1,h2,h3⟩ | h
 ·rcases sorts_sim M [f.a0,f.a1,f.a2] h1 h2 with⟨i1,i2,i3⟩ | i
  ·rw [i2,i3];exact Sim.Out.wide (M:=M) (M.app k f hf h1 h2 (by rw [hal];exact hlen) i3) h3
  ·exact .inr (M.bad i (put_stick _ _ _) (put_stick _ _ _))
 ·refine .inr (M.bad h (fun h=>?_) (fun h=>?_))
  ·rw [sorts_stick _ _ _ h,put_stick _ _ _ h]
  ·rw [sorts_stick _ _ _ h,put_stick _ _ _ h]
theorem macro_stick (c:Cx) (r:Rec) (m:Macro) (k:Nat) (l:List V) (st:St) (h:st.e≠0):(macroM c r m k l st).2=st:=by
 unfold macroM;simp only;rw [sorts_stick _ _ _ h,if_pos (.inl h)]
theorem all_len (r:Sexp->St->V × St):∀ (l:List Sexp) (st:St),(allM r l st).1.length=l.length
 | [],_=>rfl
 | y :: l,st=>by unfold allM;simp [all_len r l]
def Sim.At (M:Sim c1 c2) (kn1 kn2:Nat) (x:Sexp):Prop:=∀ env1 env2 s1 s2,M.S s1 s2->EnvP (M.R s2.t) env1 env2->M.Out s2.t (termP c1 kn1 x env1 s1) (termP c2 kn2 x env2 s2)
def Sim.Lax (M:Sim c1 c2) (kn1 kn2:Nat):Prop:=kn1=kn2\/(kn1<=kn2/\∀ s1 s2 t2,M.S s1 s2->M.B (failS 31 s1) t2)
variable {kn1 kn2:Nat} {env1 env2:Env} {s1 s2:St}
theorem Sim.At.each {M:Sim c1 c2} {x:Sexp} (h:M.At kn1 kn2 x) (he:EnvP (M.R s2.t) env1 env2):M.Each (fun y=>termP c1 kn1 y env1) (fun y=>termP c2 kn2 y env2) s2.t x:=fun u1 u2 hu ht=>h env1 env2 u1 u2 hu (M.env he ht)
theorem call_sim (hlax:M.Lax kn1 kn2) (name:ByteArray) {l:List Sexp} (hs:M.S s1 s2) (he:EnvP (M.R s2.t) env1 env2) (hl:∀ y ∈ l,M.At kn1 kn2 y) (hb:∀ k m,c2.g.macros[k]?=some m->k < kn1->M.At k k m.body) :
  M.Out s2.t (callM c1 (termP c1) kn1 name l env1 s1) (callM c2 (termP c2) kn2 name l env2 s2):=by
 have k1:∀ y st,st.e≠0->(termP c1 kn1 y env1 st).2=st:=fun y st h=>term_stick _ _ _ _ _ h;have k2:∀ y st,st.e≠0->(termP c2 kn2 y env2 st).2=st:=fun y st h=>term_stick _ _ _ _ _ h;have hle:∀ y ∈ l,M.Each (fun y=>termP c1 kn1 y env1) (fun y=>termP c2 kn2 y env2) s2.t y:=fun y hy=>(hl y hy).each he;have h0:M.Out s2.t (v0,s1) (v0,s2):=.inl ⟨hs,M.nought hs,List.prefix_refl _⟩;unfold callM;rw [M.same]
 split
 ·cases hf:c2.g.funs[findAt (c2.g.funs.map Fun4.name) name]? with
  | none=>exact h0
  | some f=>exact apply_sim M k1 k2 _ f hf hs hle
 ·by_cases h1:hasB (c2.g.macros.map Macro.name) name=true/\findAt (c2.g.macros.map Macro.name) name < kn1
  ·have h2:hasB (c2.g.macros.map Macro.name) name=true/\findAt (c2.g.macros.map Macro.name) name < kn2:=⟨h1.1,by rcases hlax with e | e <;> omega⟩
   rw [if_pos h1,if_pos h2]
   cases hm:c2.g.macros[findAt (c2.g.macros.map Macro.name) name]? with
   | none=>exact h0
   | some m =>
    simp only
    split
    ·exact .inr (M.fail 30 hs (by decide))
    rename_i hlen
    have hlen:l.length=m.params.length:=Decidable.not_not.1 hlen;rcases all_sim M k1 k2 hs (List.prefix_refl _) hle with⟨a1,a2,a3⟩ | h
    ·exact Sim.Out.wide (M:=M) (M.mac _ m hm a1 a2 (by rw [all_len];exact hlen) (fun hu hv=>hb _ m hm h1.2 _ _ _ _ hu hv)) a3
    ·exact .inr (M.bad h (macro_stick _ _ _ _ _ _) (macro_stick _ _ _ _ _ _))
  ·rw [if_neg h1];rcases hlax with e | e
   ·rw [e] at h1;rw [if_neg h1];exact .inr (M.fail 31 hs (by decide))
   ·exact .inr (e.2 s1 s2 _ hs)
theorem let_sim {x:Sexp} (hs:M.S s1 s2) (he:EnvP (M.R s2.t) env1 env2) (hx:x.l≠[]) (hst:x.stands=true) (hT:∀ y:Sexp,y.full < x.full->y.stands=true->M.At kn1 kn2 y) :
  M.Out s2.t (letM (termP c1) kn1 x env1 s1) (letM (termP c2) kn2 x env2 s2):=by
 have k1:∀ y st,st.e≠0->(termP c1 kn1 y env1 st).2=st:=fun y st h=>term_stick _ _ _ _ _ h;have k2:∀ y st,st.e≠0->(termP c2 kn2 y env2 st).2=st:=fun y st h=>term_stick _ _ _ _ _ h;unfold letM
 cases boundN x with
 | none=>exact .inr (M.fail 30 hs (by decide))
 | some names =>
  simp only
  have hl:∀ y ∈ (nthX x 1).l.map secondX,M.Each (fun y=>termP c1 kn1 y env1) (fun y=>termP c2 kn2 y env2) s2.t y:=fun y hy=>by
   obtain ⟨b,hb,rfl⟩:=List.mem_map.1 hy;have f1:=full_nth hx 1;have f2:=full_mem hb;have f3:=full_nth_le (x:=b) 1;exact(hT _ (by show(nthX b 1).full < _;omega) (second_stands (l_stands (nth_stands hst 1) b hb))).each he
  rcases all_sim M k1 k2 hs (List.prefix_refl _) hl with⟨a1,a2,a3⟩ | h
  ·exact Sim.Out.wide (M:=M) (hT _ (full_nth hx 2) (nth_stands hst 2) _ _ _ _ a1 ((EnvP.zip names a2).reverse.append (M.env he a3))) a3
  ·exact .inr (M.bad h (term_stick _ _ _ _ _) (term_stick _ _ _ _ _))
theorem differs_cases {name:ByteArray} {x:Sexp}:(differsN name x=1->isNumX (nthX x 2)=true)/\(differsN name x=2->isNumX (nthX x 1)=true):=by
 unfold differsN
 constructor
 ·intro h
  split at h
  ·split at h
   ·rename_i h1;rw [Bool.and_eq_true] at h1;exact h1.2
   ·split at h <;> cases h
  ·cases h
 ·intro h
  split at h
  ·split at h
   ·cases h
   ·split at h
    ·rename_i h1;rw [Bool.and_eq_true] at h1;exact h1.2
    ·cases h
  ·cases h
theorem list_sim (hlax:M.Lax kn1 kn2) {x:Sexp} (hs:M.S s1 s2) (he:EnvP (M.R s2.t) env1 env2) (hx:x.l≠[]) (hst:x.stands=true) (hT:∀ y:Sexp,y.full < x.full->y.stands=true->M.At kn1 kn2 y) (hb:∀ k m,c2.g.macros[k]?=some m->k < kn1->M.At k k m.body) :
  M.Out s2.t (listM c1 (termP c1) kn1 x env1 s1) (listM c2 (termP c2) kn2 x env2 s2):=by
 have k1:∀ y st,st.e≠0->(termP c1 kn1 y env1 st).2=st:=fun y st h=>term_stick _ _ _ _ _ h;have k2:∀ y st,st.e≠0->(termP c2 kn2 y env2 st).2=st:=fun y st h=>term_stick _ _ _ _ _ h;have hn:∀ i,M.Each (fun y=>termP c1 kn1 y env1) (fun y=>termP c2 kn2 y env2) s2.t (nthX x i):=fun i=>(hT _ (full_nth hx i) (nth_stands hst i)).each he;have hnn:∀ i j,M.Each (fun y=>termP c1 kn1 y env1) (fun y=>termP c2 kn2 y env2) s2.t (nthX (nthX x i) j):=fun i j=>(hT _ (Nat.lt_of_le_of_lt (full_nth_le j) (full_nth hx i)) (nth_stands (nth_stands hst i) j)).each he;have htl:∀ y ∈ x.l.tail,M.At kn1 kn2 y:=fun y hy=>hT y (tail_full hy) (l_stands hst y (List.mem_of_mem_tail hy));have hte:∀ y ∈ x.l.tail,M.Each (fun y=>termP c1 kn1 y env1) (fun y=>termP c2 kn2 y env2) s2.t y:=fun y hy=>(htl y hy).each he;unfold listM
 split
 ·exact let_sim M hs he hx hst hT
 split
 ·exact .inr (M.fail 30 hs (by decide))
 split
 ·exact sum_sim M k1 k2 (headS x) hs (fun i _=>nth_stands hst i) (fun i _ _=>hn i) hte
 cases wayN (headS x) with
 | none =>
  simp only
  split
  ·exact .inr (M.fail 30 hs (by decide))
  ·exact call_sim M hlax (headS x) hs he htl hb
 | some p =>
  obtain ⟨way,least,most⟩:=p;simp only
  split
  ·exact .inr (M.fail 30 hs (by decide))
  split
  ·rename_i h;exact diffL_sim M k1 k2 (headS x) hs (differs_cases.1 h) (nth_stands hst 2) (hnn 1 1) (hnn 1 2)
  split
  ·rename_i h;exact diffR_sim M k1 k2 (headS x) hs (differs_cases.2 h) (nth_stands hst 1) (hnn 2 1) (hnn 2 2)
  rcases all_sim M k1 k2 hs (List.prefix_refl _) hte with⟨a1,a2,a3⟩ | h
  ·rw [if_neg (by simp [(M.ok a1).1]),if_neg (by simp [(M.ok a1).2])];exact(make_sim M way a1 a2).wide a3
  ·refine .inr (M.bad h (fun h=>?_) (fun h=>?_))
   ·rw [if_pos h]
   ·rw [if_pos h]
theorem term_sim_step (hlax:M.Lax kn1 kn2) {x:Sexp} (hst:x.stands=true) (hT:∀ y:Sexp,y.full < x.full->y.stands=true->M.At kn1 kn2 y) (hb:∀ k m,c2.g.macros[k]?=some m->k < kn1->M.At k k m.body):M.At kn1 kn2 x:=by
 intro env1 env2 s1 s2 hs he;rw [termP_eq,termP_eq];unfold termStep;have q1:¬ s1.e≠0:=by simp [(M.ok hs).1]
 have q2:¬ s2.e≠0:=by simp [(M.ok hs).2]
 rw [if_neg q1,if_neg q2];clear q1 q2
 split
 ·rename_i hn
  rw [number_same c1 c2 x s1 s2];rcases M.number hs hst hn with⟨i1,i2,i3⟩ | h
  ·rw [number_same c1 c2 x s1 s2] at i3;exact Sim.Out.wide (M:=M) (M.op 10 _ (l1:=[]) (l2:=[]) i1 trivial i3 (.inr (.inl rfl))) (by rw [i2];exact List.prefix_refl _)
  ·refine .inr (M.bad h (fun h=>?_) (fun h=>?_))
   ·rw [op_stick _ _ _ _ _ h]
   ·rw [op_stick _ _ _ _ _ h]
 split
 ·rename_i hl
  have hx:x.l≠[]:=by
   unfold isListB at hl;intro e;rw [e] at hl;simp at hl
  exact list_sim M hlax hs he hx hst hT hb
 split
 ·exact .inr (M.fail 30 hs (by decide))
 rcases EnvP.find x.text he with⟨e1,e2⟩ | ⟨v,w,e1,e2,hv⟩
 ·rw [e1,e2];simp only
  split
  ·exact M.op 0 0 (l1:=[]) (l2:=[]) hs trivial M.zero (.inl rfl)
  split
  ·rcases M.op 0 0 (l1:=[]) (l2:=[]) hs trivial M.zero (.inl rfl) with⟨h1,h2,h3⟩ | h
   ·exact Sim.Out.wide (M:=M) (M.op 1 0 (l1:=[_]) (l2:=[_]) h1 ⟨h2,trivial⟩ M.zero (.inl rfl)) h3
   ·refine .inr (M.bad h (fun h=>?_) (fun h=>?_))
    ·rw [op_stick _ _ _ _ _ h]
    ·rw [op_stick _ _ _ _ _ h]
  split
  ·exact .inr (M.fail 30 hs (by decide))
  ·exact call_sim M hlax x.text hs he (fun y hy=>by cases hy) hb
 ·rw [e1,e2];exact .inl ⟨hs,hv,List.prefix_refl _⟩
theorem term_sim (hM:∀ m ∈ c2.g.macros,m.body.stands=true):∀ (n kn1 kn2:Nat) (x:Sexp),need c2.g kn1 x < n->M.Lax kn1 kn2->x.stands=true->M.At kn1 kn2 x:=by
 intro n
 induction n with
 | zero=>intro kn1 kn2 x h;omega
 | succ n ih =>
  intro kn1 kn2 x h hlax hst;refine term_sim_step M hlax hst (fun y hy hys=>ih kn1 kn2 y (by unfold need at *;omega) hlax hys) (fun k m hm hk=>?_);have h1:=sumB_lt hm hk;exact ih k k m.body (by unfold need at *;omega) (.inl rfl) (hM m (mgq hm))
end
end El
end Go.Proofs.YtpmdcckapddchaaGreatDoor
