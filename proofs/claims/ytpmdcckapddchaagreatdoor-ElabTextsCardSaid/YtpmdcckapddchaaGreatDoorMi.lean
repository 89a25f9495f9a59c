import Derived.Test.YtpmdcckapddchaaGreatDoorShort
import Derived.Test.YtpmdcckapddchaaGreatDoorMh
import Derived.Test.YtpmdcckapddchaaGreatDoorMb
/- merged by wip/merge.py from: ElSim ElSim2 ElSim3 ElTextP Law7Blk -/
set_option maxRecDepth 100000
set_option maxHeartbeats 51200000
namespace Go.Proofs.YtpmdcckapddchaaGreatDoor
namespace El
open Go.RowKit Dt Sg
def Pw (P:V->V->Prop):List V->List V->Prop
 | [],[]=>True
 | v :: l,w :: m=>P v w/\Pw P l m
 | _,_=>False
def EnvP (P:V->V->Prop):Env->Env->Prop
 | [],[]=>True
 | p :: l,q :: m=>p.1=q.1/\P p.2 q.2/\EnvP P l m
 | _,_=>False
section
variable {P Q:V->V->Prop}
theorem Pw.imp (h:∀ v w,P v w->Q v w):∀ {l m:List V},Pw P l m->Pw Q l m
 | [],[],_=>trivial
 | _ :: _,_ :: _,⟨a,b⟩=>⟨h _ _ a,Pw.imp h b⟩
 | [],_ :: _,h=>h.elim
 | _ :: _,[],h=>h.elim
theorem Pw.len:∀ {l m:List V},Pw P l m->l.length=m.length
 | [],[],_=>rfl
 | _ :: _,_ :: _,⟨_,b⟩=>by simp [Pw.len b]
 | [],_ :: _,h=>h.elim
 | _ :: _,[],h=>h.elim
theorem Pw.append:∀ {l m l' m':List V},Pw P l m->Pw P l' m'->Pw P (l ++ l') (m ++ m')
 | [],[],_,_,_,h=>h
 | _ :: _,_ :: _,_,_,⟨a,b⟩,h=>⟨a,Pw.append b h⟩
 | [],_ :: _,_,_,h,_=>h.elim
 | _ :: _,[],_,_,h,_=>h.elim
theorem Pw.reverse:∀ {l m:List V},Pw P l m->Pw P l.reverse m.reverse
 | [],[],_=>trivial
 | v :: l,w :: m,⟨a,b⟩=>by
  rw [List.reverse_cons,List.reverse_cons];exact(Pw.reverse b).append ⟨a,trivial⟩
 | [],_ :: _,h=>h.elim
 | _ :: _,[],h=>h.elim
theorem Pw.sorts (hP:∀ v w,P v w->v.1=w.1):∀ {l m:List V},Pw P l m->l.map Prod.fst=m.map Prod.fst
 | [],[],_=>rfl
 | _ :: _,_ :: _,⟨a,b⟩=>by simp [hP _ _ a,Pw.sorts hP b]
 | [],_ :: _,h=>h.elim
 | _ :: _,[],h=>h.elim
theorem Pw.head (h0:P v0 v0):∀ {l m:List V},Pw P l m->P (l.getD 0 v0) (m.getD 0 v0)
 | [],[],_=>h0
 | _ :: _,_ :: _,⟨a,_⟩=>a
 | [],_ :: _,h=>h.elim
 | _ :: _,[],h=>h.elim
theorem Pw.tail:∀ {l m:List V},Pw P l m->Pw P l.tail m.tail
 | [],[],_=>trivial
 | _ :: _,_ :: _,⟨_,b⟩=>b
 | [],_ :: _,h=>h.elim
 | _ :: _,[],h=>h.elim
theorem EnvP.imp (h:∀ v w,P v w->Q v w):∀ {l m:Env},EnvP P l m->EnvP Q l m
 | [],[],_=>trivial
 | _ :: _,_ :: _,⟨e,a,b⟩=>⟨e,h _ _ a,EnvP.imp h b⟩
 | [],_ :: _,h=>h.elim
 | _ :: _,[],h=>h.elim
theorem EnvP.append:∀ {l m l' m':Env},EnvP P l m->EnvP P l' m'->EnvP P (l ++ l') (m ++ m')
 | [],[],_,_,_,h=>h
 | _ :: _,_ :: _,_,_,⟨e,a,b⟩,h=>⟨e,a,EnvP.append b h⟩
 | [],_ :: _,_,_,h,_=>h.elim
 | _ :: _,[],_,_,h,_=>h.elim
theorem EnvP.reverse:∀ {l m:Env},EnvP P l m->EnvP P l.reverse m.reverse
 | [],[],_=>trivial
 | v :: l,w :: m,⟨e,a,b⟩=>by
  rw [List.reverse_cons,List.reverse_cons];exact(EnvP.reverse b).append ⟨e,a,trivial⟩
 | [],_ :: _,h=>h.elim
 | _ :: _,[],h=>h.elim
theorem EnvP.zip:∀ (ns:List ByteArray) {l m:List V},Pw P l m->EnvP P (ns.zip l) (ns.zip m)
 | [],_,_,_=>by simp [EnvP]
 | n :: ns,[],[],_=>by simp [EnvP]
 | n :: ns,_ :: _,_ :: _,⟨a,b⟩=>⟨rfl,a,EnvP.zip ns b⟩
 | n :: ns,[],_ :: _,h=>h.elim
 | n :: ns,_ :: _,[],h=>h.elim
end
def appN (c:Cx) (f:Fun4) (k:Nat) (l:List V) (st:St):V × St:=putM c ⟨13,f.len,nthN l 0,nthN l 1,nthN l 2,f.res,k,0⟩ st
def OutP (S B:St->St->Prop) (R:List Node->V->V->Prop) (t:List Node) (p q:V × St):Prop:=(S p.2 q.2/\R q.2.t p.1 q.1/\t <+: q.2.t)\/B p.2 q.2
structure Sim (c1 c2:Cx) where
 same:c1.g=c2.g
 S:St->St->Prop
 B:St->St->Prop
 R:List Node->V->V->Prop
 N:Int->Prop
 ok:∀ {s1 s2},S s1 s2->s1.e=0/\s2.e=0
 bad:∀ {s1 s2 t1 t2},B s1 s2->(s1.e≠0->t1=s1)->(s2.e≠0->t2=s2)->B t1 t2
 bad_ne:∀ {s1 s2},B s1 s2->s1.e≠0\/s2.e≠0
 mono:∀ {t t' v w},R t v w->t <+: t'->R t' v w
 sort:∀ {t v w},R t v w->v.1=w.1
 zero:N 0
 neg:∀ {n},N n->N (-n)
 nought:∀ {s1 s2},S s1 s2->R s2.t v0 v0
 op:∀ {s1 s2} (k n:Int) {l1 l2},S s1 s2->Pw (R s2.t) l1 l2->N n->(n=0\/k=10\/k=11\/k=12)->(S (opM c1 k n l1 s1).2 (opM c2 k n l2 s2).2/\R (opM c2 k n l2 s2).2.t (opM c1 k n l1 s1).1 (opM c2 k n l2 s2).1/\s2.t <+: (opM c2 k n l2 s2).2.t)\/B (opM c1 k n l1 s1).2 (opM c2 k n l2 s2).2
 diff:∀ {s1 s2} (n:Int) {v1 v2 w1 w2},S s1 s2->R s2.t v1 v2->R s2.t w1 w2->(S (diffM c1 v1 w1 n s1).2 (diffM c2 v2 w2 n s2).2/\R (diffM c2 v2 w2 n s2).2.t (diffM c1 v1 w1 n s1).1 (diffM c2 v2 w2 n s2).1/\s2.t <+: (diffM c2 v2 w2 n s2).2.t)\/B (diffM c1 v1 w1 n s1).2 (diffM c2 v2 w2 n s2).2
 number:∀ {s1 s2} {x:Sexp},S s1 s2->x.stands=true->isNumX x=true->(S (numberM c1 x s1).2 (numberM c2 x s2).2/\(numberM c2 x s2).2.t=s2.t/\N (numberM c1 x s1).1)\/B (numberM c1 x s1).2 (numberM c2 x s2).2
 fail:∀ {s1 s2} (e:Int),S s1 s2->e≠0->B (failS e s1) (failS e s2)
 app:∀ {s1 s2} (k:Nat) (f:Fun4) {l1 l2},c2.g.funs[k]?=some f->S s1 s2->Pw (R s2.t) l1 l2->(l2.length:Int)=f.len->sortsM l2 [f.a0,f.a1,f.a2] s2=s2->OutP S B R s2.t (appN c1 f k l1 s1) (appN c2 f k l2 s2)
 mac:∀ {s1 s2} (k:Nat) (m:Macro) {l1 l2},c2.g.macros[k]?=some m->S s1 s2->Pw (R s2.t) l1 l2->l2.length=m.params.length->(∀ {u1 u2 e1 e2},S u1 u2->EnvP (R u2.t) e1 e2->OutP S B R u2.t (termP c1 k m.body e1 u1) (termP c2 k m.body e2 u2))->OutP S B R s2.t (macroM c1 (termP c1) m k l1 s1) (macroM c2 (termP c2) m k l2 s2)
section
variable {c1 c2:Cx}
def Sim.Out (M:Sim c1 c2) (t:List Node) (p q:V × St):Prop:=(M.S p.2 q.2/\M.R q.2.t p.1 q.1/\t <+: q.2.t)\/M.B p.2 q.2
def Sim.OutL (M:Sim c1 c2) (t:List Node) (p q:List V × St):Prop:=(M.S p.2 q.2/\Pw (M.R q.2.t) p.1 q.1/\t <+: q.2.t)\/M.B p.2 q.2
theorem Sim.Out.wide {M:Sim c1 c2} {t u:List Node} {p q:V × St} (h:M.Out u p q) (ht:t <+: u):M.Out t p q:=h.imp_left fun h=>⟨h.1,h.2.1,ht.trans h.2.2⟩
theorem Sim.OutL.wide {M:Sim c1 c2} {t u:List Node} {p q:List V × St} (h:M.OutL u p q) (ht:t <+: u):M.OutL t p q:=h.imp_left fun h=>⟨h.1,h.2.1,ht.trans h.2.2⟩
theorem Sim.env (M:Sim c1 c2) {t u:List Node} {l m:Env} (h:EnvP (M.R t) l m) (ht:t <+: u):EnvP (M.R u) l m:=h.imp fun _ _ h=>M.mono h ht
variable (M:Sim c1 c2)
end
end El
namespace El
open Go.RowKit Dt Sg
section
variable {c1 c2:Cx} (M:Sim c1 c2)
variable {r1 r2:Sexp->St->V × St}
def Sim.Each (M:Sim c1 c2) (r1 r2:Sexp->St->V × St) (t:List Node) (y:Sexp):Prop:=∀ s1 s2,M.S s1 s2->t <+: s2.t->M.Out s2.t (r1 y s1) (r2 y s2)
end
end El
namespace El
open Go.RowKit Dt Sg
section
variable {c1 c2:Cx} (M:Sim c1 c2)
variable {r1 r2:Sexp->St->V × St}
def Sim.At (M:Sim c1 c2) (kn1 kn2:Nat) (x:Sexp):Prop:=∀ env1 env2 s1 s2,M.S s1 s2->EnvP (M.R s2.t) env1 env2->M.Out s2.t (termP c1 kn1 x env1 s1) (termP c2 kn2 x env2 s2)
variable {kn1 kn2:Nat} {env1 env2:Env} {s1 s2:St}
theorem Sim.At.each {M:Sim c1 c2} {x:Sexp} (h:M.At kn1 kn2 x) (he:EnvP (M.R s2.t) env1 env2):M.Each (fun y=>termP c1 kn1 y env1) (fun y=>termP c2 kn2 y env2) s2.t x:=fun u1 u2 hu ht=>h env1 env2 u1 u2 hu (M.env he ht)
end
end El
namespace El
open Go.RowKit Dt Sg
theorem sym_text (s:ByteArray):(symT s).textL=Lx.quoteL (Lx.bs s):=by rw [Sexp.textL_eq];rfl
theorem pos_text (n:Int):(posX n).textL=Lib.itoa n:=by
 rw [Sexp.textL_eq];exact Lx.bs_mk _
theorem list_text (s:ByteArray) (xs:List Sexp):(listT (symT s :: xs)).textL=40 :: (Lx.quoteL (Lx.bs s) ++ Sexp.restsL xs ++ [41]):=by
 rw [Sexp.textL_eq];have e1:(listT (symT s :: xs)).kind=3:=rfl;have e2:(listT (symT s :: xs)).l=symT s :: xs:=rfl;rw [e1,e2,if_neg (by decide),if_neg (by decide),if_pos rfl,Sexp.textsL,sym_text]
theorem rests_end (l:List Sexp) (y:Sexp):Sexp.restsL (l ++ [y])=Sexp.restsL l ++ 32 :: y.textL:=by
 induction l with
 | nil=>rw [List.nil_append,Sexp.restsL];simp [Sexp.restsL]
 | cons x r ih=>rw [List.cons_append,Sexp.restsL,ih,Sexp.restsL];simp
theorem num_text (n:Int):(numX n).textL=if n < 0 then [40,45,32] ++ Lib.itoa (-n) ++ [41] else Lib.itoa n:=by
 unfold numX
 split
 ·rw [list_text,Sexp.restsL,Sexp.restsL,pos_text];have:Lx.quoteL (Lx.bs sMinus)=[45]:=by decide
  rw [this];simp
 ·exact pos_text n
def wordL (op:Int):List UInt8:=Lx.bs (opName op)
theorem word_quote (op:Int):Lx.quoteL (Lx.bs (opName op))=wordL op:=by
 unfold wordL opName
 repeat' split
 all_goals decide
section
variable {g:Sig} {n:Node} {xs:List Sexp}
theorem text_true (h:n.op=0):(exprN g n xs).textL=[116,114,117,101]:=by
 unfold exprN;rw [if_pos h,sym_text]
 decide
theorem text_num (h:n.op=10):(exprN g n xs).textL=(numX n.n).textL:=by
 unfold exprN;rw [if_neg (by rw [h];decide),if_pos h]
theorem text_sub (h:n.op=11) (hn:n.n < 0):(exprN g n xs).textL=40 :: 45 :: (Sexp.restsL xs ++ 32 :: Lib.itoa (-n.n) ++ [41]):=by
 unfold exprN;rw [if_neg (by rw [h];decide),if_neg (by rw [h];decide),if_pos h,if_pos hn,list_text,rests_end,pos_text,show Lx.quoteL (Lx.bs sMinus)=[45] by decide]
 rfl
theorem text_add (h:n.op=11) (hn:¬ n.n < 0):(exprN g n xs).textL=40 :: 43 :: (Sexp.restsL xs ++ 32 :: Lib.itoa n.n ++ [41]):=by
 unfold exprN;rw [if_neg (by rw [h];decide),if_neg (by rw [h];decide),if_pos h,if_neg hn,list_text,rests_end,pos_text,show Lx.quoteL (Lx.bs sPlus)=[43] by decide]
 rfl
theorem text_diff (h:n.op=12):(exprN g n xs).textL=[40,60,61,32,40,45] ++ Sexp.restsL xs ++ [41,32] ++ (numX n.n).textL ++ [41]:=by
 unfold exprN;rw [if_neg (by rw [h];decide),if_neg (by rw [h];decide),if_neg (by rw [h];decide),if_pos h,list_text,Sexp.restsL,Sexp.restsL,Sexp.restsL,list_text,show Lx.quoteL (Lx.bs sLe)=[60,61] by decide,show Lx.quoteL (Lx.bs sMinus)=[45] by decide];simp
theorem text_name (h:n.op=13) (h0:n.len=0):(exprN g n xs).textL=Lx.quoteL (Lx.bs (funName g n.fn)):=by
 unfold exprN;rw [if_neg (by rw [h];decide),if_neg (by rw [h];decide),if_neg (by rw [h];decide),if_neg (by rw [h];decide),if_pos h,if_pos h0,sym_text]
theorem text_app (h:n.op=13) (h0:n.len≠0):(exprN g n xs).textL=40 :: (Lx.quoteL (Lx.bs (funName g n.fn)) ++ Sexp.restsL xs ++ [41]):=by
 unfold exprN;rw [if_neg (by rw [h];decide),if_neg (by rw [h];decide),if_neg (by rw [h];decide),if_neg (by rw [h];decide),if_pos h,if_neg h0,list_text]
theorem text_op (h0:n.op≠0) (h10:n.op≠10) (h11:n.op≠11) (h12:n.op≠12) (h13:n.op≠13):(exprN g n xs).textL=40 :: (wordL n.op ++ Sexp.restsL xs ++ [41]):=by
 unfold exprN;rw [if_neg h0,if_neg h10,if_neg h11,if_neg h12,if_neg h13,list_text,word_quote]
end
def textO (g:Sig) (te:Int) (t:List Node) (id:Int):ByteArray × Int :=
 if te≠0\/id < 0\/(t.length:Int)<=id then({ data:=#[] },2)
 else if 4096 < treeN t id then({ data:=#[] },41)
 else if 8192 < (exprX g t id).textL.length then({ data:=#[] },41)
 else(bytesN (exprX g t id).textL,0)
end El
namespace El
open Go.RowKit Dt Sg
theorem lies_blk {α β:Type} {n:Nat} {R:World->List Value->β->Prop} {w:World} {b:Nat} {t:TypeId} {fr:Nat × Nat} {val:α->List Value} {f:α->β} {L:List Value} (ys:List α) (h:w.heap[b]?=some (.cells L.toArray t fr)) (hL:flatV val ys <+: L) (hv:∀ y,(val y).length=n) (hR:∀ y ∈ ys,R w (val y) (f y)) :
  Lies n R w (some ⟨b,0,none⟩) (ys.map f):=by
 refine .inr ⟨b,0,rfl,lt_of_block h,fun i x hx=>?_⟩;rw [List.getElem?_map] at hx
 cases hy:ys[i]? with
 | none=>rw [hy] at hx;cases hx
 | some y =>
  rw [hy] at hx;obtain rfl:f y=x:=by simpa using hx
  refine⟨val y,hv y,fun j u hu=>?_,hR y (mgq hy)⟩;have h1:=flatV_at hv ys i y hy j u hu;obtain ⟨r,hr⟩:=hL;rw [Nat.zero_add,cell_of_row w b (i * n+j) L.toArray t fr h,List.getElem?_toArray,← hr,List.getElem?_append_left (gqs h1).1];exact h1
end El
end Go.Proofs.YtpmdcckapddchaaGreatDoor
