import Derived.Test.YtpmdcckapddchaaGreatDoorShort
import Derived.Test.YtpmdcckapddchaaGreatDoorMzf
import Derived.Test.YtpmdcckapddchaaGreatDoorMw
import Derived.Test.YtpmdcckapddchaaGreatDoorMb
import Derived.Test.YtpmdcckapddchaaGreatDoorMd
import Derived.Test.YtpmdcckapddchaaGreatDoorMv
/- merged by wip/merge.py from: ElBack3 ElBack4 ElBack5 ElBackN ElTree ElBackT ElWri3 -/
set_option maxRecDepth 100000
set_option maxHeartbeats 51200000
namespace Go.Proofs.YtpmdcckapddchaaGreatDoor
namespace El
open Go.RowKit Dt Sg
theorem all_map {α:Type} {r:Sexp->St->V × St} {f:α->Sexp} {v:α->V} {st:St}:∀ (l:List α),(∀ a ∈ l,r (f a) st=(v a,st))->allM r (l.map f) st=(l.map v,st)
 | [],_=>rfl
 | a :: l,h=>by
  show((r (f a) st).1 :: (allM r (l.map f) (r (f a) st).2).1,(allM r (l.map f) (r (f a) st).2).2)=_;rw [h a (by simp),all_map l (fun b hb=>h b (by simp [hb]))]
  rfl
theorem core_ne {s x:ByteArray} (h:coreB (Lx.bs s)=false) (hx:coreB (Lx.bs x)=true):s≠x:=fun e=>by rw [e,hx] at h;cases h
theorem res_ne {s x:ByteArray} (h:Lx.resB (Lx.bs s)=false) (hx:Lx.resB (Lx.bs x)=true):s≠x:=fun e=>by rw [e,hx] at h;cases h
theorem core_way {s:ByteArray} (h:coreB (Lx.bs s)=false):wayN s=none:=by
 unfold wayN
 rw [if_neg (core_ne h (by decide)),if_neg (core_ne h (by decide)),if_neg (core_ne h (by decide)),if_neg (core_ne h (by decide)),if_neg (core_ne h (by decide)),if_neg (core_ne h (by decide)),
  if_neg (core_ne h (by decide)),if_neg (core_ne h (by decide)),if_neg (core_ne h (by decide)),if_neg (core_ne h (by decide)),if_neg (core_ne h (by decide)),if_neg (core_ne h (by decide))]
theorem op_cases {n:Node} {k:Nat} (h:standsN n k=true):n.op=13\/(n.op=0/\n.len=0)\/(n.op=10/\n.len=0)\/(n.op=1/\n.len=1)\/(n.op=11/\n.len=1) \/
  ((n.op=2\/n.op=3\/n.op=4\/n.op=5\/n.op=6\/n.op=8\/n.op=9\/n.op=12)/\n.len=2)\/(n.op=7/\n.len=3):=by
 unfold standsN at h
 cases ha:arityN n.op with
 | none=>rw [ha] at h;cases h
 | some q =>
  obtain ⟨lo,hi⟩:=q;rw [ha] at h;simp only [Bool.and_eq_true,decide_eq_true_eq] at h;have hl:=h.1.1.1.1.1.1.1;clear h;unfold arityN at ha
  by_cases h13:n.op=13
  ·exact .inl h13
  rw [if_neg h13] at ha
  by_cases h0:n.op=0\/n.op=10
  ·rw [if_pos h0] at ha;simp only [Option.some.injEq,Prod.mk.injEq] at ha;rcases h0 with h0 | h0
   ·exact .inr (.inl ⟨h0,by omega⟩)
   ·exact .inr (.inr (.inl ⟨h0,by omega⟩))
  rw [if_neg h0] at ha
  by_cases h1:n.op=1\/n.op=11
  ·rw [if_pos h1] at ha;simp only [Option.some.injEq,Prod.mk.injEq] at ha;rcases h1 with h1 | h1
   ·exact .inr (.inr (.inr (.inl ⟨h1,by omega⟩)))
   ·exact .inr (.inr (.inr (.inr (.inl ⟨h1,by omega⟩))))
  rw [if_neg h1] at ha
  by_cases h2:n.op=2\/n.op=3\/n.op=4\/n.op=5\/n.op=6\/n.op=8\/n.op=9\/n.op=12
  ·rw [if_pos h2] at ha;simp only [Option.some.injEq,Prod.mk.injEq] at ha;exact .inr (.inr (.inr (.inr (.inr (.inl ⟨h2,by omega⟩)))))
  rw [if_neg h2] at ha
  by_cases h7:n.op=7
  ·rw [if_pos h7] at ha;simp only [Option.some.injEq,Prod.mk.injEq] at ha;exact .inr (.inr (.inr (.inr (.inr (.inr ⟨h7,by omega⟩)))))
  ·rw [if_neg h7] at ha
   cases ha
theorem args0 {n:Node} (h:n.len=0):argsOf n=[]:=by unfold argsOf;rw [h];rfl
theorem args1 {n:Node} (h:n.len=1):argsOf n=[n.a0]:=by unfold argsOf;rw [h];rfl
theorem args2 {n:Node} (h:n.len=2):argsOf n=[n.a0,n.a1]:=by unfold argsOf;rw [h];rfl
theorem args3 {n:Node} (h:n.len=3):argsOf n=[n.a0,n.a1,n.a2]:=by unfold argsOf;rw [h];rfl
theorem expr_op {g:Sig} {n:Node} {xs:List Sexp} (h0:n.op≠0) (h10:n.op≠10) (h11:n.op≠11) (h12:n.op≠12) (h13:n.op≠13):exprN g n xs=listT (symT (opName n.op) :: xs):=by
 unfold exprN;rw [if_neg h0,if_neg h10,if_neg h11,if_neg h12,if_neg h13]
section
variable {g:Sig} {t:List Node} {k:Nat} {n:Node} {c:Cx}
theorem opName_ne (op:Int):opName op≠sMinus:=by
 unfold opName
 repeat' split
 all_goals decide
theorem fun_name_at (h:tableE g t=0) (hn:t[k]?=some n) (h13:n.op=13):∃ (j:Nat) (f:Fun4),n.fn=(j:Int)/\g.funs[j]?=some f/\funName g n.fn=f.name/\Lx.resB (Lx.bs f.name)=false/\coreB (Lx.bs f.name)=false/\findAt (g.funs.map Fun4.name) f.name=j/\hasB (g.funs.map Fun4.name) f.name=true:=by
 obtain ⟨j,f,hj,hf,_⟩:=app_fun h hn h13;have hnm:=fun_name' (table_parts.1 h).1 hf;have hst:=findAt_stop (l:=g.funs.map Fun4.name) (k:=j) (s:=f.name) (by rw [List.getElem?_map,hf];rfl) hnm.2.2.2;refine⟨j,f,hj,hf,?_,hnm.2.1,hnm.2.2.1,hst.1,hst.2⟩;unfold funName;rw [hj];show(g.funs[j]?.map Fun4.name).getD _=_;rw [hf]
 rfl
theorem isNum_expr (h:tableE g t=0) (hn:t[k]?=some n) (h10:n.op≠10):isNumX (exprX g t k)=false:=by
 rw [exprX_eq (ahead_of h) hn];have hst:=(table_node h hn).1;have hl:=args_len (node_ok hst);generalize hxs:(argsOf n).map (exprX g t)=xs;have hxl:xs.length=n.len.toNat:=by rw [← hxs,List.length_map,hl]
 by_cases h13:n.op=13
 ·obtain ⟨j,f,_,_,hnm,_,hc,_⟩:=fun_name_at h hn h13;unfold exprN;rw [if_neg (by rw [h13];decide),if_neg h10,if_neg (by rw [h13];decide),if_neg (by rw [h13];decide),if_pos h13,hnm]
  split
  ·exact isNum_symT _
  ·exact isNum_T (.inl (core_ne hc (by decide)))
 by_cases h0:n.op=0
 ·unfold exprN;rw [if_pos h0];exact isNum_symT _
 by_cases h11:n.op=11
 ·have:n.len=1:=by
   rcases op_cases hst with h | h | h | h | h | h | h <;> first | exact absurd h h13 | (rw [h11] at h;first | omega | exact h.2)
  unfold exprN;rw [if_neg h0,if_neg h10,if_pos h11]
  split
  ·exact isNum_T (.inr (by rw [List.length_append,hxl,this];show(1:Int).toNat+1≠1;decide))
  ·exact isNum_T (.inl (by decide))
 by_cases h12:n.op=12
 ·unfold exprN;rw [if_neg h0,if_neg h10,if_neg h11,if_pos h12];exact isNum_T (.inl (by decide))
 rw [expr_op h0 h10 h11 h12 h13];exact isNum_T (.inl (opName_ne _))
theorem minus_T {s:ByteArray} {l:List Sexp} (h:s≠sMinus):minusB (listT (symT s :: l))=false:=by
 unfold minusB;rw [head_list,dfq h]
 rfl
theorem minus_expr (hN:NumX) (h:tableE g t=0) (hn:t[k]?=some n):minusB (exprX g t k)=false:=by
 rw [exprX_eq (ahead_of h) hn];have hst:=(table_node h hn).1;have ho:=node_ok hst;have hl:=args_len ho;generalize hxs:(argsOf n).map (exprX g t)=xs;have hxl:xs.length=n.len.toNat:=by rw [← hxs,List.length_map,hl]
 have hsym:∀ s,minusB (symT s)=false:=fun s=>by
  unfold minusB;have:(symT s).l.length=0:=rfl;rw [this];simp
 by_cases h13:n.op=13
 ·obtain ⟨j,f,_,_,hnm,_,hc,_⟩:=fun_name_at h hn h13;unfold exprN;rw [if_neg (by rw [h13];decide),if_neg (by rw [h13];decide),if_neg (by rw [h13];decide),if_neg (by rw [h13];decide),if_pos h13,hnm]
  split
  ·exact hsym _
  ·exact minus_T (core_ne hc (by decide))
 by_cases h0:n.op=0
 ·unfold exprN;rw [if_pos h0];exact hsym _
 by_cases h10:n.op=10
 ·unfold exprN;rw [if_neg h0,if_pos h10];unfold numX
  split
  ·unfold minusB listT;simp [Sexp.l]
  ·unfold minusB posX;simp [Sexp.l]
 by_cases h11:n.op=11
 ·have hlen:n.len=1:=by
   rcases op_cases hst with h | h | h | h | h | h | h <;> first | exact absurd h h13 | (rw [h11] at h;first | omega | exact h.2)
  have hm:=ho.num (.inr (.inl h11));unfold exprN;rw [if_neg h0,if_neg h10,if_pos h11]
  split
  ·rename_i hneg
   match xs,hxl with
   | [xa],_ =>
    have e:nthX (listT (symT sMinus :: ([xa] ++ [posX (-n.n)]))) 2=posX (-n.n):=rfl;unfold minusB;rw [e];have:isNumX (posX (-n.n))=true:=by unfold isNumX;rw [(hN (-n.n) (may_neg hm)).2 (by omega)];rfl
    rw [this];simp
   | [],hx=>rw [hlen] at hx;cases hx
   | _ :: _ :: _,hx=>rw [hlen] at hx;simp at hx
  ·exact minus_T (by decide)
 by_cases h12:n.op=12
 ·unfold exprN;rw [if_neg h0,if_neg h10,if_neg h11,if_pos h12];exact minus_T (by decide)
 rw [expr_op h0 h10 h11 h12 h13];exact minus_T (opName_ne _)
end
end El
namespace El
open Go.RowKit Dt Sg
section
variable {g:Sig} {t:List Node} {c:Cx}
def Asked (t:List Node) (P:Nat->Prop):Prop:=∀ k n,P k->t[k]?=some n->(∀ a ∈ argsOf n,P a.toNat)/\(n.op=12->(nodeAt t n.a1).op≠10)
theorem valN_at {k:Nat} {n:Node} (hn:t[k]?=some n):valN c t (k:Int)=(n.sort,if c.build=true then(k:Int) else 0):=by
 unfold valN;rw [nodeAt_get hn]
theorem number_made {x:Sexp} {m:Int} (h:numN x=some (m,0)) (st:St):numberM c x st=(m,st):=by
 unfold numberM;rw [h];simp
theorem expr_step (hg:c.g=g) (h:tableE g t=0) (hN:NumX) {known k:Nat} {n:Node} (hn:t[k]?=some n)
  (ih:∀ a ∈ argsOf n,∀ st,StOk c t st->termP c known (exprX g t a) [] st=(valN c t a,st)) (hd:n.op=12->(nodeAt t n.a1).op≠10) {st:St} (hs:StOk c t st) :
  termP c known (exprX g t k) [] st=(valN c t k,st):=by
 obtain ⟨hst,hsp⟩:=table_node h hn;have ho:=node_ok hst;have hah:=ahead_of h;rw [valN_at hn,exprX_eq hah hn,termP_eq];have hall:allM (fun y=>termP c known y []) ((argsOf n).map (exprX g t)) st=(valsN c t n,st):=all_map (argsOf n) (fun a ha=>ih a ha st hs)
 have hminus:∀ a ∈ argsOf n,minusB (exprX g t a)=false:=fun a ha=>by
  have hb:=args_mem ho ha;have hk:=(gqs hn).1;obtain ⟨m,hm⟩:∃ m,t[a.toNat]?=some m:=⟨_,gqe (by omega)⟩;have e:((a.toNat:Nat):Int)=a:=by omega
  have:=minus_expr hN h hm
  rwa [e] at this
 rcases op_cases hst with h13 | ⟨hop,hlen⟩ | ⟨hop,hlen⟩ | ⟨hop,hlen⟩ | ⟨hop,hlen⟩ | ⟨hop,hlen⟩ | ⟨hop,hlen⟩
 ·-- an application
  obtain ⟨j,f,hj,hf,hnm,hres,hco,hfa,hha⟩:=fun_name_at h hn h13;have hfn:c.g.funs[findAt (c.g.funs.map Fun4.name) f.name]?=some f:=by rw [hg,hfa];exact hf
  have hcall:∀ l,allM (fun y=>termP c known y []) l st=(valsN c t n,st)->l.length=n.len.toNat->callM c (termP c) known f.name l [] st=((n.sort,if c.build=true then(k:Int) else 0),st):=fun l hl hln=>by
   unfold callM;rw [if_pos (by rw [hg];exact hha),hfn];show applyM c (fun x=>termP c known x []) f (findAt (c.g.funs.map Fun4.name) f.name) l st=_;rw [hg,hfa];exact appM_there h hn h13 hj hf hs hl hln
  unfold exprN;rw [if_neg (by rw [h13];decide),if_neg (by rw [h13];decide),if_neg (by rw [h13];decide),if_neg (by rw [h13];decide),if_pos h13,hnm]
  by_cases h0:n.len=0
  ·rw [if_pos h0];unfold termStep;rw [if_neg (by rw [hs.1];decide),isNum_symT,if_neg (by decide),if_neg (by unfold isListB symT;simp [Sexp.kind]),if_neg (by show ¬ (0:Int)≠0;decide)];show(if f.name=sTrue then _ else if f.name=sFalse then _ else if Lx.resB (Lx.bs f.name)=true then _ else callM c (termP c) known f.name [] [] st)=_;rw [if_neg (core_ne hco (by decide)),if_neg (core_ne hco (by decide)),if_neg (by rw [hres];decide)];rw [args0 h0] at hall;exact hcall [] hall (by rw [h0];rfl)
  ·rw [if_neg h0,step_list hs.1 (isNum_T (.inl (core_ne hco (by decide)))) (isList_T _ _)];unfold listM
   rw [head_list,if_neg (res_ne hres (by decide)),if_neg (fun hh=>by rcases hh with hh | hh | hh;rw [hres] at hh;cases hh;exact core_ne hco (by decide) hh;exact core_ne hco (by decide) hh),
    if_neg (fun hh=>by rcases hh with hh | hh;exact core_ne hco (by decide) hh;exact core_ne hco (by decide) hh),core_way hco]
   have e:(listT (symT f.name :: (argsOf n).map (exprX g t))).l.tail=(argsOf n).map (exprX g t):=rfl;simp only [e];have hl3:=ho.len;have hln:((argsOf n).map (exprX g t)).length=n.len.toNat:=by rw [List.length_map,args_len ho]
   rw [if_neg (by rw [hln];omega)];exact hcall _ hall hln
 ·-- true
  have hop':=opM_there h hn (by rw [hop];decide) hs;rw [ho.zero (by rw [hop];decide),hop] at hop';have hv:valsN c t n=[]:=by unfold valsN;rw [args0 hlen];rfl
  rw [hv] at hop';unfold exprN;rw [if_pos hop];unfold termStep;rw [if_neg (by rw [hs.1];decide),isNum_symT,if_neg (by decide),if_neg (by unfold isListB symT;simp [Sexp.kind]),if_neg (by show ¬ (0:Int)≠0;decide)];show(if sTrue=sTrue then opM c 0 0 [] st else _)=_;rw [if_pos rfl,hop']
 ·-- a number
  have hop':=opM_there h hn (by rw [hop];decide) hs;have hm:=ho.num (.inl hop);rw [hop] at hop';have hv:valsN c t n=[]:=by unfold valsN;rw [args0 hlen];rfl
  rw [hv] at hop';have hx:=(hN n.n hm).1;unfold exprN;rw [if_neg (by rw [hop];decide),if_pos hop];unfold termStep;rw [if_neg (by rw [hs.1];decide),if_pos (by unfold isNumX;rw [hx];rfl),number_made hx];exact hop'
 ·-- not
  have hop':=opM_there h hn (by rw [hop];decide) hs;rw [ho.zero (by rw [hop];decide),hop] at hop';rw [expr_op (by rw [hop];decide) (by rw [hop];decide) (by rw [hop];decide) (by rw [hop];decide) (by rw [hop];decide)];have hnm:opName n.op=sNot:=by rw [hop];rfl
  rw [hnm,step_list hs.1 (isNum_T (.inl (by decide))) (isList_T _ _),
   list_way (way:=0) (lo:=1) (hi:=1) (by decide) (by decide) (by decide) (by decide) (by decide) (by decide) (by decide) (by rw [args1 hlen];exact Nat.le_refl 1) (by rw [args1 hlen];exact Nat.le_refl 1) (by unfold differsN;rw [if_neg (fun hh=>by have:=hh.2;revert this;decide)]) (by rw [hall];exact hs.1),hall]
  exact hop'
 ·-- a sum
  have hop':=opM_there h hn (by rw [hop];decide) hs;have hm:=ho.num (.inr (.inl hop));rw [hop] at hop';have hv:valsN c t n=[valN c t n.a0]:=by unfold valsN;rw [args1 hlen];rfl
  rw [hv] at hop';have hia:=ih n.a0 (by rw [args1 hlen];simp) st hs;unfold exprN;rw [if_neg (by rw [hop];decide),if_neg (by rw [hop];decide),if_pos hop,args1 hlen]
  by_cases hneg:n.n < 0
  ·rw [if_pos hneg];have hx:=(hN (-n.n) (may_neg hm)).2 (by omega);have e2:nthX (listT (symT sMinus :: ([n.a0].map (exprX g t) ++ [posX (-n.n)]))) 2=posX (-n.n):=rfl;have e1:nthX (listT (symT sMinus :: ([n.a0].map (exprX g t) ++ [posX (-n.n)]))) 1=exprX g t n.a0:=rfl;have hl:(listT (symT sMinus :: ([n.a0].map (exprX g t) ++ [posX (-n.n)]))).l.length=3:=rfl;rw [step_list hs.1 (isNum_T (.inr (by simp))) (isList_T _ _)];unfold listM;rw [head_list,if_neg (by decide),if_neg (by decide),if_pos (.inr rfl)];unfold sumM;rw [if_neg (fun hh=>by have:=hh.1;rw [hl] at this;cases this),if_neg (by rw [hl];decide),e2,e1,if_pos (by unfold isNumX;rw [hx];rfl)];simp only [hia,number_made hx,if_true];rw [Int.neg_neg];exact hop'
  ·rw [if_neg hneg];have hx:=(hN n.n hm).2 (by omega);have e2:nthX (listT (symT sPlus :: ([n.a0].map (exprX g t) ++ [posX n.n]))) 2=posX n.n:=rfl;have e1:nthX (listT (symT sPlus :: ([n.a0].map (exprX g t) ++ [posX n.n]))) 1=exprX g t n.a0:=rfl;have hl:(listT (symT sPlus :: ([n.a0].map (exprX g t) ++ [posX n.n]))).l.length=3:=rfl;rw [step_list hs.1 (isNum_T (.inl (by decide))) (isList_T _ _)];unfold listM;rw [head_list,if_neg (by decide),if_neg (by decide),if_pos (.inl rfl)];unfold sumM;rw [if_neg (fun hh=>by have:=hh.1;rw [hl] at this;cases this),if_neg (by rw [hl];decide),e2,e1,if_pos (by unfold isNumX;rw [hx];rfl)];simp only [hia,number_made hx];rw [if_neg (by decide)];exact hop'
 ·-- two arguments
  have hv:valsN c t n=[valN c t n.a0,valN c t n.a1]:=by unfold valsN;rw [args2 hlen];rfl
  have hxs:(argsOf n).map (exprX g t)=[exprX g t n.a0,exprX g t n.a1]:=by rw [args2 hlen];rfl
  have hma:=hminus n.a0 (by rw [args2 hlen];simp);have hmb:=hminus n.a1 (by rw [args2 hlen];simp)
  have hdf:∀ s,differsN s (listT (symT s :: (argsOf n).map (exprX g t)))=0:=fun s=>by
   unfold differsN;rw [hxs];have e1:nthX (listT (symT s :: [exprX g t n.a0,exprX g t n.a1])) 1=exprX g t n.a0:=rfl;have e2:nthX (listT (symT s :: [exprX g t n.a0,exprX g t n.a1])) 2=exprX g t n.a1:=rfl;rw [e1,e2,hma,hmb]
   split
   ·rfl
   ·rfl
  have hway:∀ (s:ByteArray) (way:Nat),s≠sLet->Lx.resB (Lx.bs s)=false->s≠sTrue->s≠sFalse->s≠sPlus->s≠sMinus->(∃ hi,wayN s=some (way,2,hi)/\2<=hi)->termStep c (termP c) known (listT (symT s :: (argsOf n).map (exprX g t))) [] st=makeM c way [valN c t n.a0,valN c t n.a1] st:=fun s way h1 h2 h3 h4 h5 h6 ⟨hi,hw,hhi⟩=>by
   rw [step_list hs.1 (isNum_T (.inl h6)) (isList_T _ _),list_way h1 h2 h3 h4 h5 h6 hw (by rw [hxs];exact Nat.le_refl 2) (by rw [hxs];exact hhi) (hdf s) (by rw [hall];exact hs.1),hall,hv]
  by_cases h12:n.op=12
  ·-- a difference
   have hop':=opM_there h hn (by rw [h12];decide) hs;have hm:=ho.num (.inr (.inr h12));rw [h12,hv] at hop';have hx:=(hN n.n hm).1;have hb1:=args_mem ho (a:=n.a1) (by rw [args2 hlen];simp);have hk:=(gqs hn).1;obtain ⟨m1,hm1⟩:∃ m,t[n.a1.toNat]?=some m:=⟨_,gqe (by omega)⟩;have e0:((n.a1.toNat:Nat):Int)=n.a1:=by omega
   have hnb:isNumX (exprX g t n.a1)=false:=by
    have:=isNum_expr h hm1 (by have h3:=hd h12;rw [← e0,nodeAt_get hm1] at h3;exact h3)
    rwa [e0] at this
   have hia:=ih n.a0 (by rw [args2 hlen];simp) st hs;have hib:=ih n.a1 (by rw [args2 hlen];simp) st hs;unfold exprN;rw [if_neg (by rw [h12];decide),if_neg (by rw [h12];decide),if_neg (by rw [h12];decide),if_pos h12,hxs];have e1:nthX (listT [symT sLe,listT (symT sMinus :: [exprX g t n.a0,exprX g t n.a1]),numX n.n]) 1=listT (symT sMinus :: [exprX g t n.a0,exprX g t n.a1]):=rfl;have e2:nthX (listT [symT sLe,listT (symT sMinus :: [exprX g t n.a0,exprX g t n.a1]),numX n.n]) 2=numX n.n:=rfl;have e3:nthX (listT (symT sMinus :: [exprX g t n.a0,exprX g t n.a1])) 1=exprX g t n.a0:=rfl;have e4:nthX (listT (symT sMinus :: [exprX g t n.a0,exprX g t n.a1])) 2=exprX g t n.a1:=rfl
   have hdn:differsN sLe (listT [symT sLe,listT (symT sMinus :: [exprX g t n.a0,exprX g t n.a1]),numX n.n])=1:=by
    unfold differsN;rw [if_pos ⟨rfl,by decide⟩,e1,e2]
    have:minusB (listT (symT sMinus :: [exprX g t n.a0,exprX g t n.a1]))=true:=by
     unfold minusB;rw [head_list,e4,hnb]
     rfl
    rw [this,show isNumX (numX n.n)=true by unfold isNumX;rw [hx];rfl]
    rfl
   rw [step_list hs.1 (isNum_T (.inl (by decide))) (isList_T _ _)];unfold listM;rw [head_list,if_neg (by decide),if_neg (by decide),if_neg (by decide)];have hw:wayN sLe=some (8,2,2):=by decide
   rw [hw];show(if(listT [symT sLe,listT (symT sMinus :: [exprX g t n.a0,exprX g t n.a1]),numX n.n]).l.tail.length < 2\/2 < (listT [symT sLe,listT (symT sMinus :: [exprX g t n.a0,exprX g t n.a1]),numX n.n]).l.tail.length then(v0,failS 30 st) else _)=_;rw [if_neg (by show ¬ (2 < 2\/2 < 2);omega),hdn,if_pos rfl];unfold diffLM;rw [e1,e2,e3,e4];simp only [hia,hib,number_made hx];unfold heldM;rw [if_pos rfl];unfold diffM;rw [if_neg (fun hh=>by rw [hm] at hh;cases hh.2.2)];exact hop'
  ·have hop':=opM_there h hn (by rcases hop with h | h | h | h | h | h | h | h <;> rw [h] <;> decide) hs
   rw [ho.zero (by rcases hop with h | h | h | h | h | h | h | h <;> first | (rw [h];decide) | exact absurd h h12),hv] at hop'
   rw [expr_op (by rcases hop with h | h | h | h | h | h | h | h <;> rw [h] <;> decide) (by rcases hop with h | h | h | h | h | h | h | h <;> rw [h] <;> decide) (by rcases hop with h | h | h | h | h | h | h | h <;> rw [h] <;> decide) h12 (by rcases hop with h | h | h | h | h | h | h | h <;> rw [h] <;> decide)]
   rcases hop with h2 | h3 | h4 | h5 | h6 | h8 | h9 | hx
   ·rw [show opName n.op=sAnd by rw [h2];rfl,hway sAnd 1 (by decide) (by decide) (by decide) (by decide) (by decide) (by decide) ⟨1048576,by decide,by decide⟩];rw [h2] at hop';show leftM c 2 (valN c t n.a0) [valN c t n.a1] st=_;unfold leftM;rw [hop']
    rfl
   ·rw [show opName n.op=sOr by rw [h3];rfl,hway sOr 2 (by decide) (by decide) (by decide) (by decide) (by decide) (by decide) ⟨1048576,by decide,by decide⟩];rw [h3] at hop';show leftM c 3 (valN c t n.a0) [valN c t n.a1] st=_;unfold leftM;rw [hop']
    rfl
   ·rw [show opName n.op=sXor by rw [h4];rfl,hway sXor 3 (by decide) (by decide) (by decide) (by decide) (by decide) (by decide) ⟨1048576,by decide,by decide⟩];rw [h4] at hop';show leftM c 4 (valN c t n.a0) [valN c t n.a1] st=_;unfold leftM;rw [hop']
    rfl
   ·rw [show opName n.op=sImp by rw [h5];rfl,hway sImp 4 (by decide) (by decide) (by decide) (by decide) (by decide) (by decide) ⟨1048576,by decide,by decide⟩];rw [h5] at hop';show impM c (valN c t n.a1) [valN c t n.a0] st=_;unfold impM;rw [hop']
    rfl
   ·rw [show opName n.op=sEq by rw [h6];rfl,hway sEq 5 (by decide) (by decide) (by decide) (by decide) (by decide) (by decide) ⟨1048576,by decide,by decide⟩]
    have hsort:(valN c t n.a0).1=(valN c t n.a1).1:=by
     unfold sortProg at hsp;rw [if_neg (by rw [h6];decide),← vals_fst c ho,hv,h6] at hsp;have hq:opS 6 ([valN c t n.a0,valN c t n.a1].map Prod.fst)=if 0<=(valN c t n.a0).1/\(valN c t n.a0).1=(valN c t n.a1).1 then some 0 else none:=rfl
     by_cases he:0<=(valN c t n.a0).1/\(valN c t n.a0).1=(valN c t n.a1).1
     ·exact he.2
     ·rw [if_neg he] at hq;have:=(opProg_some.2 hq).2;rw [hsp] at this;rcases this with h | h <;> cases h
    rw [h6] at hop';show equalM c [valN c t n.a0,valN c t n.a1] st=_;unfold equalM
    have hal:alikeB [valN c t n.a0,valN c t n.a1]=true:=by
     unfold alikeB;simp [hsort]
    rw [hal];simp only [if_true];rw [if_neg (by rw [hs.1];decide)];show headM c 2 (eqsM c (valN c t n.a0) [valN c t n.a1] st).1 (eqsM c (valN c t n.a0) [valN c t n.a1] st).2=_
    have he:eqsM c (valN c t n.a0) [valN c t n.a1] st=([(n.sort,if c.build=true then(k:Int) else 0)],st):=by
     unfold eqsM;simp only [hop']
     rfl
    rw [he]
    rfl
   ·rw [show opName n.op=sLe by rw [h8];rfl,hway sLe 8 (by decide) (by decide) (by decide) (by decide) (by decide) (by decide) ⟨2,by decide,by decide⟩];rw [h8] at hop';exact hop'
   ·rw [show opName n.op=sLt by rw [h9];rfl,hway sLt 9 (by decide) (by decide) (by decide) (by decide) (by decide) (by decide) ⟨2,by decide,by decide⟩];rw [h9] at hop';exact hop'
   ·exact absurd hx h12
 ·-- if
  have hop':=opM_there h hn (by rw [hop];decide) hs;rw [ho.zero (by rw [hop];decide),hop] at hop';rw [expr_op (by rw [hop];decide) (by rw [hop];decide) (by rw [hop];decide) (by rw [hop];decide) (by rw [hop];decide)];have hnm:opName n.op=sIte:=by rw [hop];rfl
  rw [hnm,step_list hs.1 (isNum_T (.inl (by decide))) (isList_T _ _),
   list_way (way:=7) (lo:=3) (hi:=3) (by decide) (by decide) (by decide) (by decide) (by decide) (by decide) (by decide) (by rw [args3 hlen];exact Nat.le_refl 3) (by rw [args3 hlen];exact Nat.le_refl 3) (by unfold differsN;rw [if_neg (fun hh=>by have:=hh.2;revert this;decide)]) (by rw [hall];exact hs.1),hall]
  exact hop'
theorem expr_made (hg:c.g=g) (h:tableE g t=0) (hN:NumX) {P:Nat->Prop} (hP:Asked t P) (known:Nat):∀ (k:Nat),P k->k < t.length->∀ st,StOk c t st->termP c known (exprX g t k) [] st=(valN c t k,st):=by
 intro k
 induction k using Nat.strongRecOn with
 | _ k ih =>
  intro hp hk st hs;obtain ⟨n,hn⟩:∃ n,t[k]?=some n:=⟨_,gqe hk⟩;obtain ⟨h1,h2⟩:=hP k n hp hn;refine expr_step hg h hN hn (fun a ha st hs=>?_) h2 hs;have hb:=ahead_of h k n hn a ha;have e:((a.toNat:Nat):Int)=a:=by omega
  have:=ih a.toNat (by omega) (h1 a ha) (by omega) st hs
  rwa [e] at this
end
end El
namespace El
open Go.RowKit Dt Sg
def NumS:Prop:=∀ n,mayB n=true->0<=n->(posX n).stands=true
theorem stands_listT {l:List Sexp} (h:∀ y ∈ l,y.stands=true):(listT l).stands=true:=by
 rw [Sexp.stands_eq];have e1:(listT l).kind=3:=rfl;have e2:(listT l).text={ data:=#[] }:=rfl;have e3:(listT l).l=l:=rfl;rw [e1,e2,e3,if_neg (by decide),if_neg (by decide),if_neg (by decide),if_pos rfl,Sexp.standsL_all];rw [show(Lx.bs { data:=#[] }).isEmpty=true from rfl,Bool.true_and,List.all_eq_true];exact h
theorem stands_symT {s:ByteArray} (h:Lx.mayB (Lx.bs s)=true):(symT s).stands=true:=by
 rw [Sexp.stands_eq];have e1:(symT s).kind=0:=rfl;have e2:(symT s).text=s:=rfl;have e3:(symT s).l=[]:=rfl;rw [e1,e2,e3,if_pos rfl,h]
 rfl
theorem opName_may (op:Int):Lx.mayB (Lx.bs (opName op))=true:=by
 unfold opName
 repeat' split
 all_goals decide
theorem stands_numX (hS:NumS) {n:Int} (hm:mayB n=true):(numX n).stands=true:=by
 unfold numX
 split
 ·refine stands_listT fun y hy=>?_;simp only [List.mem_cons,List.not_mem_nil,or_false] at hy;rcases hy with rfl | rfl
  ·exact stands_symT (by decide)
  ·exact hS _ (may_neg hm) (by omega)
 ·exact hS _ hm (by omega)
section
variable {g:Sig} {t:List Node}
theorem expr_stands (hS:NumS) (h:tableE g t=0):∀ (k:Nat),k < t.length->(exprX g t k).stands=true:=by
 intro k
 induction k using Nat.strongRecOn with
 | _ k ih =>
  intro hk;obtain ⟨n,hn⟩:∃ n,t[k]?=some n:=⟨_,gqe hk⟩;have hst:=(table_node h hn).1;have ho:=node_ok hst
  have hxs:∀ y ∈ (argsOf n).map (exprX g t),y.stands=true:=fun y hy=>by
   obtain ⟨a,ha,rfl⟩:=List.mem_map.1 hy;have hb:=args_mem ho ha;have:=ih a.toNat (by omega) (by omega);have e:((a.toNat:Nat):Int)=a:=by omega
   rwa [e] at this
  have hsx:∀ {s:ByteArray} (hs:Lx.mayB (Lx.bs s)=true) (r:List Sexp),(∀ y ∈ r,y.stands=true)->∀ y ∈ symT s :: r,y.stands=true:=fun hs r hr y hy=>by
   rcases List.mem_cons.1 hy with rfl | hy
   ·exact stands_symT hs
   ·exact hr y hy
  rw [exprX_eq (ahead_of h) hn];generalize (argsOf n).map (exprX g t)=xs at *;unfold exprN
  split
  ·exact stands_symT (by decide)
  split
  ·rename_i h10
   exact stands_numX hS (ho.num (.inl h10))
  split
  ·rename_i h11
   have hm:=ho.num (.inr (.inl h11))
   split
   ·refine stands_listT (hsx (by decide) _ fun y hy=>?_);rcases List.mem_append.1 hy with hy | hy
    ·exact hxs y hy
    ·obtain rfl:y=posX (-n.n):=by simpa using hy
     exact hS _ (may_neg hm) (by omega)
   ·refine stands_listT (hsx (by decide) _ fun y hy=>?_);rcases List.mem_append.1 hy with hy | hy
    ·exact hxs y hy
    ·obtain rfl:y=posX n.n:=by simpa using hy
     exact hS _ hm (by omega)
  split
  ·rename_i h12
   have hm:=ho.num (.inr (.inr h12));refine stands_listT (hsx (by decide) _ fun y hy=>?_);simp only [List.mem_cons,List.not_mem_nil,or_false] at hy;rcases hy with rfl | rfl
   ·exact stands_listT (hsx (by decide) _ hxs)
   ·exact stands_numX hS hm
  split
  ·rename_i h13
   obtain ⟨j,f,_,hf,hnm,_⟩:=fun_name_at h hn h13;have hmay:=(fun_name' (table_parts.1 h).1 hf).1;rw [hnm]
   split
   ·exact stands_symT hmay
   ·exact stands_listT (hsx hmay _ hxs)
  ·exact stands_listT (hsx (opName_may _) _ hxs)
theorem made_again (hN:NumX) (hS:NumS) (h:tableE g t=0) {P:Nat->Prop} (hP:Asked t P) {k:Nat} (hk:k < t.length) (hp:P k) (hd:(exprX g t k).depth<=60) (most:Int):termO g t (exprX g t k) most=(t,(k:Int),0):=by
 have hg:=(table_parts.1 h).1
 have hmay:(exprX g t k).may=true:=by
  unfold Sexp.may;rw [expr_stands hS h k hk,decide_eq_true hd]
  rfl
 have h1:=expr_made (c:=⟨g,0,false⟩) rfl h hN hP g.macros.length k hp hk (st0 []) ⟨rfl,fun hb=>by cases hb⟩;have h2:=expr_made (c:=⟨g,most,true⟩) rfl h hN hP g.macros.length k hp hk (st0 t) ⟨rfl,fun _=>rfl⟩
 have hso:(sortO g [] (exprX g t k)).2=0:=by
  unfold sortO;rw [if_neg (fun hh=>by rcases hh with hh | hh;exact hh hg;rw [hmay] at hh;cases hh)];unfold sortP;rw [h1]
  rfl
 unfold termO;rw [if_neg (by rw [h];decide),if_neg (by rw [hso];decide)];unfold makeP;rw [h2];rw [if_neg (by show ¬ (0:Int)≠0;decide)]
 rfl
end
end El
namespace El
open Go.RowKit Dt Sg
theorem bs_bytes (l:List UInt8):Lx.bs (bytesN l)=l:=Lx.bs_mk l
theorem pos_parse {n:Int} (hm:mayB n=true) (h0:0<=n):parseV (Lib.itoa n)=n/\parseE (Lib.itoa n)=0:=by
 have h:=parse_of_text hm h0
 rwa [(text_pos hm (by omega)).1] at h
theorem numN_pos {n:Int} (hm:mayB n=true) (h0:0<=n):numN (posX n)=some (n,0):=by
 unfold numN;rw [if_pos (show(posX n).kind=1 from rfl)];show some (parseV (Lx.bs (bytesN (Lib.itoa n))),parseE (Lx.bs (bytesN (Lib.itoa n))))=_;rw [bs_bytes,(pos_parse hm h0).1,(pos_parse hm h0).2]
theorem num_x:NumX:=fun n hm=>by
 refine⟨?_,fun h0=>numN_pos hm h0⟩;unfold numX
 by_cases hneg:n < 0
 ·rw [if_pos hneg];have hm':=may_neg hm;have hp:=pos_parse hm' (by omega);unfold numN;rw [if_neg (by show ¬ (3:Int)=1;decide),head_list,if_pos rfl];show(if(1:Int)=1 then some (- parseV (Lx.bs (bytesN (Lib.itoa (-n)))),parseE (Lx.bs (bytesN (Lib.itoa (-n))))) else none)=_;rw [if_pos rfl,bs_bytes,hp.1,hp.2,Int.neg_neg]
 ·rw [if_neg hneg];exact numN_pos hm (by omega)
theorem num_s:NumS:=fun n hm h0=>by
 have hp:=pos_parse hm h0;have hl:=Lib.itoa_length_le n (by have:=mayB_iff.1 hm;omega) (by have:=mayB_iff.1 hm;omega);rw [Sexp.stands_eq];have e1:(posX n).kind=1:=rfl;have e2:(posX n).text=bytesN (Lib.itoa n):=rfl;have e3:(posX n).l=[]:=rfl;rw [e1,e2,e3,if_neg (by decide),if_pos rfl,bs_bytes]
 have hnum:isNum (Lib.itoa n)=true:=by
  have:=hp.2;unfold parseE at this
  split at this
  ·assumption
  ·cases this
 unfold numB;rw [hnum,Bool.true_and,decide_eq_true (show(Lib.itoa n).length<=100 by omega)]
 rfl
section
variable {g:Sig} {t:List Node} {k:Nat} {n:Node}
theorem treeN_get {a:Int} (h0:0<=a) (ha:a < k) (hk:k<=t.length):(trees t k).getD a.toNat 0=treeN t a:=by
 unfold treeN;rw [trees_at t (by omega),trees_at t (by omega)]
theorem treeN_eq (ha:Ahead t) (hn:t[k]?=some n):treeN t (k:Int)=min ((((argsOf n).map (treeN t)).foldl (·+·) 0)+1) 1073741824:=by
 have hk:=(gqs hn).1;unfold treeN;show(trees t t.length).getD k 0=_;rw [trees_at t hk,nodeAt_get hn];unfold treeStep
 have:(argsOf n).map (fun a=>(trees t k).getD a.toNat 0)=(argsOf n).map (treeN t):=List.map_congr_left fun a hm=>by
  have hb:=ha k n hn a hm;exact treeN_get hb.1 hb.2 (by omega)
 rw [this]
 rfl
theorem foldl_ge:∀ (l:List Int) (s:Int),l.foldl (·+·) s=s+l.foldl (·+·) 0
 | [],s=>by simp
 | x :: l,s=>by
  simp only [List.foldl_cons];rw [foldl_ge l (s+x),foldl_ge l (0+x)]
  omega
theorem tree_pos (ha:Ahead t):∀ k:Nat,k < t.length->1<=treeN t (k:Int):=by
 intro k
 induction k using Nat.strongRecOn with
 | _ k ih =>
  intro hk;obtain ⟨n,hn⟩:∃ n,t[k]?=some n:=⟨_,gqe hk⟩;rw [treeN_eq ha hn]
  have hs:0<=((argsOf n).map (treeN t)).foldl (·+·) 0:=by
   have h:∀ l:List Int,(∀ a ∈ l,0<=a/\a < k)->0<=(l.map (treeN t)).foldl (·+·) 0:=fun l=>by
    induction l with
    | nil=>intro _;simp
    | cons a l ihl =>
     intro hl;have hb:=hl a (by simp);have h1:=ih a.toNat (by omega) (by omega);have e:((a.toNat:Nat):Int)=a:=by omega
     rw [e] at h1;have h2:=ihl (fun b hb=>hl b (by simp [hb]));rw [List.map_cons,List.foldl_cons,foldl_ge]
     omega
   exact h _ (fun a hm=>ha k n hn a hm)
  omega
theorem rests_len (B:Int->Int):∀ (l:List Int),(∀ a ∈ l,((exprX g t a).textL.length:Int)+1<=B a)->((Sexp.restsL (l.map (exprX g t))).length:Int)<=(l.map B).foldl (·+·) 0
 | [],_=>by simp [Sexp.restsL]
 | a :: l,h=>by
  have h1:=h a (by simp);have h2:=rests_len B l (fun b hb=>h b (by simp [hb]));rw [List.map_cons,List.map_cons,List.foldl_cons,foldl_ge,Sexp.restsL];simp only [List.length_cons,List.length_append]
  omega
theorem foldl_mul (c:Int):∀ (l:List Int),(l.map fun x=>c * x).foldl (·+·) 0=c * l.foldl (·+·) 0
 | []=>by simp
 | x :: l=>by
  rw [List.map_cons,List.foldl_cons,List.foldl_cons,foldl_ge,foldl_ge l (0+x),foldl_mul c l,Int.mul_add];simp
theorem itoa_le {n:Int} (hm:mayB n=true):(Lib.itoa n).length<=21/\(Lib.itoa (-n)).length<=21:=by
 have h:=mayB_iff.1 hm;exact⟨Lib.itoa_length_le n (by omega) (by omega),Lib.itoa_length_le (-n) (by omega) (by omega)⟩
theorem num_len {n:Int} (hm:mayB n=true):(numX n).textL.length<=25:=by
 rw [num_text];have h:=itoa_le hm
 split
 ·simp only [List.length_append,List.length_cons,List.length_nil]
  omega
 ·omega
theorem name_len {s:ByteArray} (h:Lx.mayB (Lx.bs s)=true):(Lx.quoteL (Lx.bs s)).length<=102:=by
 have hl:(Lx.bs s).length<=100:=by
  unfold Lx.mayB at h;simp only [Bool.and_eq_true,decide_eq_true_eq] at h
  first | exact h.1.2 | exact h.1.1.2 | exact h.2 | exact h.1 | omega
 unfold Lx.quoteL
 split
 ·omega
 ·simp only [List.length_cons,List.length_append,List.length_nil]
  omega
theorem word_len (op:Int):(wordL op).length<=3:=by
 unfold wordL opName
 repeat' split
 all_goals decide
theorem text_len (h:tableE g t=0):∀ k:Nat,k < t.length->treeN t (k:Int)<=1000000->((exprX g t k).textL.length:Int)+1<=200 * treeN t (k:Int):=by
 have ha:=ahead_of h;intro k
 induction k using Nat.strongRecOn with
 | _ k ih =>
  intro hk htk;obtain ⟨n,hn⟩:∃ n,t[k]?=some n:=⟨_,gqe hk⟩;have hst:=(table_node h hn).1;have ho:=node_ok hst;have he:=treeN_eq ha hn;have hsum:(((argsOf n).map (treeN t)).foldl (·+·) 0)+1=treeN t (k:Int):=by omega
  have hall:∀ a ∈ argsOf n,treeN t a<=1000000:=fun a hm=>by
   have hpos:∀ l:List Int,(∀ b ∈ l,0<=b/\b < k)->0<=(l.map (treeN t)).foldl (·+·) 0/\∀ b ∈ l,treeN t b<=(l.map (treeN t)).foldl (·+·) 0:=fun l=>by
    induction l with
    | nil=>intro _;exact⟨by simp,fun b hb=>by cases hb⟩
    | cons x l ihl =>
     intro hl;have hb:=hl x (by simp);have h1:=tree_pos ha x.toNat (by omega);have e:((x.toNat:Nat):Int)=x:=by omega
     rw [e] at h1;have h2:=ihl (fun b hb=>hl b (by simp [hb]));rw [List.map_cons,List.foldl_cons,foldl_ge];refine⟨by omega,fun b hb=>?_⟩;rcases List.mem_cons.1 hb with rfl | hb
     ·omega
     ·have:=h2.2 b hb
      omega
   have:=(hpos _ (fun b hb=>ha k n hn b hb)).2 a hm
   omega
  have hr:=rests_len (g:=g) (t:=t) (fun a=>200 * treeN t a) (argsOf n) (fun a hm=>by
   have hb:=ha k n hn a hm
   have := ih a.toNat (by omega) (by omega) (by have := hall a hm; have e : ((a.toNat : Nat) : Int) = a := by omega
                                                rw [e];exact this)
   have e:((a.toNat:Nat):Int)=a:=by omega
   rw [e] at this;exact this)
  have hm2:((argsOf n).map fun a=>200 * treeN t a).foldl (·+·) 0=200 * ((argsOf n).map (treeN t)).foldl (·+·) 0:=by
   rw [← foldl_mul,List.map_map]
   rfl
  rw [hm2] at hr;rw [exprX_eq ha hn];generalize (argsOf n).map (exprX g t)=xs at *
  by_cases h0:n.op=0
  ·rw [text_true h0];simp only [List.length_cons,List.length_nil]
   omega
  by_cases h10:n.op=10
  ·rw [text_num h10];have:=num_len (ho.num (.inl h10))
   omega
  by_cases h11:n.op=11
  ·have:=itoa_le (ho.num (.inr (.inl h11)))
   by_cases hneg:n.n < 0
   ·rw [text_sub h11 hneg];simp only [List.length_cons,List.length_append,List.length_nil]
    omega
   ·rw [text_add h11 hneg];simp only [List.length_cons,List.length_append,List.length_nil]
    omega
  by_cases h12:n.op=12
  ·rw [text_diff h12];have:=num_len (ho.num (.inr (.inr h12)));simp only [List.length_cons,List.length_append,List.length_nil]
   omega
  by_cases h13:n.op=13
  ·obtain ⟨j,f,_,hf,hnm,_⟩:=fun_name_at h hn h13;have hl:=name_len (fun_name' (table_parts.1 h).1 hf).1
   by_cases hz:n.len=0
   ·rw [text_name h13 hz,hnm]
    omega
   ·rw [text_app h13 hz,hnm];simp only [List.length_cons,List.length_append,List.length_nil]
    omega
  ·have:=word_len n.op;rw [text_op h0 h10 h11 h12 h13];simp only [List.length_cons,List.length_append,List.length_nil]
   omega
end
end El
namespace El
open Go.RowKit Dt Sg
theorem quote_ge (l:List UInt8):l.length<=(Lx.quoteL l).length:=by
 unfold Lx.quoteL
 split
 ·exact nlq
 ·simp only [List.length_cons,List.length_append,List.length_nil]
  omega
theorem full_rests:∀ (l:List Sexp),(∀ y ∈ l,y.full<=y.textL.length+1)->Sexp.fullL l<=(Sexp.restsL l).length
 | [],_=>by rw [Sexp.fullL_nil];exact Nat.zero_le _
 | x :: r,h=>by
  have h1:=h x (by simp);have h2:=full_rests r (fun y hy=>h y (by simp [hy]));rw [Sexp.fullL_cons,Sexp.restsL];simp only [List.length_cons,List.length_append]
  omega
theorem full_texts:∀ (l:List Sexp),(∀ y ∈ l,y.full<=y.textL.length+1)->Sexp.fullL l<=(Sexp.textsL l).length+1
 | [],_=>by rw [Sexp.fullL_nil];exact Nat.zero_le _
 | x :: r,h=>by
  have h1:=h x (by simp);have h2:=full_rests r (fun y hy=>h y (by simp [hy]));rw [Sexp.fullL_cons,Sexp.textsL];simp only [List.length_append]
  omega
theorem full_text:∀ (n:Nat) (x:Sexp),SizeOf.sizeOf x < n->x.stands=true->x.full<=x.textL.length+1:=by
 intro n
 induction n with
 | zero=>intro x hx;omega
 | succ n ih =>
  intro x hx hs;rw [Sexp.full_eq,Sexp.textL_eq];rw [Sexp.stands_eq] at hs;have hb:(Lx.bs x.text).length=x.text.size:=Lx.bs_length _
  by_cases h0:x.kind=0
  ·rw [if_pos h0] at hs ⊢;rw [Bool.and_eq_true,List.isEmpty_iff] at hs;rw [hs.1,Sexp.fullL_nil];have:=quote_ge (Lx.bs x.text)
   omega
  ·rw [if_neg h0] at hs ⊢
   by_cases h1:x.kind=1
   ·rw [if_pos h1] at hs;rw [Bool.and_eq_true,List.isEmpty_iff] at hs;rw [if_neg (by omega),if_neg (by omega),hs.1,Sexp.fullL_nil]
    omega
   ·rw [if_neg h1] at hs
    by_cases h2:x.kind=2
    ·rw [if_pos h2] at hs ⊢;rw [Bool.and_eq_true,List.isEmpty_iff] at hs;rw [hs.1,Sexp.fullL_nil,List.length_cons]
     omega
    ·rw [if_neg h2] at hs ⊢
     by_cases h3:x.kind=3
     ·rw [if_pos h3] at hs ⊢;rw [Bool.and_eq_true,List.isEmpty_iff,Sexp.standsL_all,List.all_eq_true] at hs;have ht:x.text.size=0:=by rw [← hb,hs.1];rfl
      have h:=full_texts x.l (fun y hy=>ih y (by have:=Sexp.mem_lt hy;omega) (hs.2 y hy));rw [ht,List.length_cons,List.length_append,List.length_cons,List.length_nil]
      omega
     ·rw [if_neg h3] at hs
      cases hs
structure WrF (W0:World) (B b gb tb:Nat) (A2 At:Option Addr) (c2 ct:Nat) (g:Sig) (t:List Node):Prop where
 gbox:W0.cell? ⟨gb,1,none⟩=some (.slice A2 g.funs.length c2)
 gl:gb < W0.heap.size
 tbox:W0.cell? ⟨tb,0,none⟩=some (.slice At t.length ct)
 tl:tb < W0.heap.size
 funs:Lies 6 FunR W0 A2 g.funs
 nodes:Lies 8 NodeR W0 At t
 ok:tableE g t=0
 hB:W0.heap.size<=B
 tab:∀ u,Below W0.heap.size W0 u->TabOk u
 small:t.length<=1000000
 names:∀ f ∈ g.funs,(f.name.size:Int)<=140737488351232
def PutK (W0:World) (B b gb tb:Nat) (g:Sig) (t:List Node) (k:Nat):Prop:=∀ (w:World) (l:List UInt8),Below W0.heap.size W0 w->EW B b (.pointer (some ⟨gb,0,none⟩)) (.pointer (some ⟨tb,0,none⟩)) l w->l.length+(exprX g t k).textL.length<=140737488355328 ->
 Calls Tryz.prog 21 #[.pointer (some ⟨b,0,none⟩),.int .i64 k] w (PutE B b (.pointer (some ⟨gb,0,none⟩)) (.pointer (some ⟨tb,0,none⟩)) (l ++ (exprX g t k).textL) w)
theorem own_on {w w':World} {s n:Nat} {e:TypeId} {v:Value} {xs:List Value} (h:w.ownsRow s e 1 v n xs) (hb:Below w.heap.size w w'):w'.ownsRow s e 1 v n xs:=by
 refine⟨h.1,?_⟩;rcases h.2 with h1 | ⟨g,cap,cur,h1,h2,h3,h4⟩
 ·exact .inl h1
 ·exact .inr ⟨g,cap,cur,h1,h2,(hb.block g (lt_of_block h3)).trans h3,h4⟩
theorem AL.keep {s0 b:Nat} {w wr w2 w3:World} {al:List Int} {rv:Value} {vs:List Value} (h:AL s0 b w al wr rv vs) (hb:Below wr.heap.size wr w2) (hg:w2.grownBy w3 rv.ownBlock):Box1 w3 (s0+1) rv 98:=by
 have hl:=lt_of_block h.ab;unfold Box1;rw [hg.block _ (Nat.lt_of_lt_of_le hl hb.size) (fun e=>?_),hb.block _ hl]
 ·exact h.ab
 ·rcases h.own.2 with⟨hv,_⟩ | ⟨g,cap,cur,hv,_,hbk,_⟩
  ·rw [hv] at e;cases e
  ·rw [hv] at e;have e2:s0+1=g:=by simpa [Value.ownBlock] using e
   have h1:=h.ab;unfold Box1 at h1;rw [← e2,h1] at hbk;simp at hbk
theorem EW.block {B b:Nat} {x y:Value} {l:List UInt8} {w:World} (h:EW B b x y l w):∃ cs z,w.heap[b]?=some (.cells cs 70 z):=by
 rcases h with⟨_,v,hb,_⟩ | ⟨_,v,hb,_⟩
 ·exact⟨_,_,hb⟩
 ·exact⟨_,_,hb⟩
def argTexts (g:Sig) (t:List Node) (n:Node):List (List UInt8):=(argsOf n).map fun a=>(exprX g t a).textL
theorem argTexts_gaps (g:Sig) (t:List Node) (n:Node):Sexp.restsL ((argsOf n).map (exprX g t))=gaps (argTexts g t n):=by
 rw [rests_gaps,List.map_map]
 rfl
theorem AL.writes {W0 w wr:World} {B b gb tb:Nat} {A2 At:Option Addr} {c2 ct:Nat} {g:Sig} {t:List Node} (hF:WrF W0 B b gb tb A2 At c2 ct g t) {k:Nat} (ih:∀ j,j < k->PutK W0 B b gb tb g t j) (hb0:Below W0.heap.size W0 w) {n:Node} {rv:Value} {vs:List Value} {l:List UInt8} (hA:AL w.heap.size b w (argsOf n) wr rv vs)
  (hE:EW B b (.pointer (some ⟨gb,0,none⟩)) (.pointer (some ⟨tb,0,none⟩)) l wr) (hargs:∀ a ∈ argsOf n,0<=a/\a < k) (hbw:b < w.heap.size) :
  ∀ i (hi:i < vs.length) (hT:i < (argTexts g t n).length),Writes B b (.pointer (some ⟨gb,0,none⟩)) (.pointer (some ⟨tb,0,none⟩)) vs[i] (argTexts g t n)[i] wr:=by
 intro i hi hT;obtain ⟨bi,e1,e2⟩:=hA.fs i hi;have hTl:i < (argsOf n).length:=by simpa [argTexts] using hT
 have hT2:(argTexts g t n)[i]=(exprX g t (argsOf n)[i]).textL:=by simp [argTexts]
 have ha:=hargs _ (List.getElem_mem hTl);have hg:(argsOf n).getD i 0=(argsOf n)[i]:=by rw [List.getD_eq_getElem?_getD,gqe hTl];rfl
 rw [hg] at e2;rw [hT2];generalize (argsOf n)[i]=a at *;obtain ⟨j,rfl⟩:∃ j:Nat,a=(j:Int):=⟨a.toNat,by omega⟩;refine⟨_,_,_,.inl rfl,e1,fun l' u hu hw hlen=>?_⟩;obtain ⟨cs,z,hbk⟩:=hE.block
 have hne:bi≠b:=fun e=>by
  unfold Box1 at e2;rw [e,hbk] at e2;simp at e2
 refine wrput1_any (hu.keep _ _ _ _ hne e2 (by decide)) (hu.keep _ _ _ _ (by omega) hA.wb (by decide)) ?_;exact ih j (by omega) u l' ((hb0.trans (hA.below.mono hb0.size)).trans (hu.below.mono hF.hB)) hw hlen
theorem stands_kind {n:Node} {a:Int} (h:standsN n a=true):(n.op=0\/n.op=10\/n.op=11\/n.op=12\/n.op=13\/(1<=n.op/\n.op<=9))/\(n.op=11->n.len=1):=by
 unfold standsN at h
 cases ha:arityN n.op with
 | none=>rw [ha] at h;cases h
 | some q =>
  obtain ⟨lo,hi⟩:=q;rw [ha] at h;simp only [Bool.and_eq_true,decide_eq_true_eq,Bool.or_eq_true] at h;obtain ⟨⟨⟨⟨⟨⟨⟨hlen,hsort⟩,a0⟩,a1⟩,a2⟩,hfn⟩,hf13⟩,hnum⟩:=h;unfold arityN at ha
  repeat' split at ha
  all_goals first
   | (cases ha;done)
   | (simp only [Option.some.injEq,Prod.mk.injEq] at ha;omega)
theorem name_at (q:Nat) (h1:1<=q) (h9:q<=9):(#[Value.string { data:=#[116,114,117,101] },.string { data:=#[110,111,116] },.string { data:=#[97,110,100] },.string { data:=#[111,114] },.string { data:=#[120,111,114] },.string { data:=#[61,62] },.string { data:=#[61] },.string { data:=#[105,116,101] },.string { data:=#[60,61] },.string { data:=#[60] },.string { data:=#[] },.string { data:=#[] },.string { data:=#[] },.string { data:=#[] }]:Array Value)[q]?=some (.string (opName q)):=by
 have hc:q=1\/q=2\/q=3\/q=4\/q=5\/q=6\/q=7\/q=8\/q=9:=by omega
 rcases hc with rfl | rfl | rfl | rfl | rfl | rfl | rfl | rfl | rfl <;> rfl
theorem PartsR.on {B b:Nat} {w w':World} {A:Option Addr} {vs:List Value} (h:PartsR b w A vs) (hw:Wr B b w w'):PartsR b w' A vs:=by
 rcases h with h | ⟨ba,cs,z,hA,hn,hb,ht⟩
 ·exact .inl h
 ·exact .inr ⟨ba,cs,z,hA,hn,hw.keep _ _ _ _ hn hb (by decide),ht⟩
theorem info_fn:(Tryz.prog.info? 1).map (fun i=>(i.zero,i.size,i.bytes))=some (some .nilFunc,1,8):=by kernel_rfl
theorem put_step {W0:World} {B b gb tb:Nat} {A2 At:Option Addr} {c2 ct:Nat} {g:Sig} {t:List Node} (hF:WrF W0 B b gb tb A2 At c2 ct g t) {k:Nat} (hk:k < t.length) (ih:∀ j,j < k->PutK W0 B b gb tb g t j):PutK W0 B b gb tb g t k:=by
 intro w l hb hw hlen;obtain ⟨n,hn⟩:∃ n,t[k]?=some n:=⟨_,gqe hk⟩;have hok:=node_ok (table_node hF.ok hn).1;have HKi:=kp (stands_kind (table_node hF.ok hn).1);obtain ⟨nb,no,hAt,hna,hni⟩:=node_get hF.nodes hn;subst hAt;obtain ⟨m,hm⟩:∃ m:Nat,n.len=(m:Int):=⟨n.len.toNat,by have:=hok.len;omega⟩;have hm3:m<=3:=by have:=hok.len;omega
 have HX:=kp (exprX_eq (g:=g) (ahead_of hF.ok) hn);have HN:=kp (fun u (hu:Below W0.heap.size W0 u)=>hna.on hu);have HTb:=kp (fun u (hu:Below W0.heap.size W0 u)=>(hu.cell (p:=⟨tb,0,none⟩) hF.tl).trans hF.tbox);have HOk:=kp hok;have HNi:=kp hni;have HAf:=kp (fun h13=>app_fun hF.ok hn h13);have HSo:=kp (table_node hF.ok hn).2;have HF:=kp hF;have HIh:=kp ih;have HLen:=kp hlen;have HW:=kp hw;have HB0:=kp hb;have hm128:(m:Int) < 128:=by omega
 have hm3i:(m:Int)<=3:=by omega
 have hm0:(0:Int)<=(m:Int):=by omega
 have hsb:W0.heap.size<=w.heap.size:=hb.size;have hmf:∀ (fn:Fn) (first cap:Array Value) (w:World),(Instr.makeFunc fn first cap).run Tryz.prog w=.ok (.func fn first cap) w:=fun _ _ _ _=>rfl;obtain ⟨i0,hi,hz0,hz1,hz2⟩:=info_parts info_fn;have B1:=kp ((brq w).alloc nlq (.cells #[.pointer (some ⟨b,0,none⟩)] 62));have S1:=kp (heap_alloc_new w (.cells #[.pointer (some ⟨b,0,none⟩)] 62));have Z1:=kp (show(w.alloc (.cells #[.pointer (some ⟨b,0,none⟩)] 62)).heap.size=w.heap.size+1 by simp);clear hF ih hlen hw hb hok hna hn hni
 go_enter Tryz.func21,Tryz.ntmps21
 go_upto_region 1 with fail
 generalize w.alloc (.cells #[.pointer (some ⟨b,0,none⟩)] 62)=w1 at *;have q1:w1.cell? ⟨w.heap.size,0,none⟩=some (.pointer (some ⟨b,0,none⟩)):=by rw [cell_of_cells S1.out];rfl
 obtain ⟨x1,x2⟩:=(HW.out.below B1.out).cells;have x3:=HTb.out w1 (HB0.out.trans (B1.out.mono hsb));have hkl:(k:Int) < (t.length:Int):=by omega
 go_upto_region 2 with fail
 clear q1 x1 x2 x3;have B2:=kp (B1.out.trans ((brq w1).alloc nlq (.cells #[.slice none 0 0] 98) |>.mono B1.out.size));have S2:=kp (heap_alloc_new w1 (.cells #[.slice none 0 0] 98));have T2:=kp ((Lib.alloc_old w1 (.cells #[.slice none 0 0] 98) _ (lt_of_block S1.out)).trans S1.out);have Z2:=kp (show(w1.alloc (.cells #[.slice none 0 0] 98)).heap.size=w.heap.size+2 by simp [Z1.out]);go_upto_region 3 with fail
 rw [Z1.out] at *;generalize w1.alloc (.cells #[.slice none 0 0] 98)=w2 at *;obtain ⟨_,_,d1,_⟩:=HN.out w2 (HB0.out.trans (B2.out.mono hsb));rw [hm] at d1;refine wp_region_held_drew (S:=fun W=>W.cell? ⟨nb,no+k * 8+1,none⟩=some (.int .i8 (m:Int))) (by kernel_rfl) (d1) (fun hHeld=>?_);refine plz [0,1,2,3,4,5,6,7,8,9] ?_;iterate 10 (refine tnz (v:=?_) ?_ ?_;rotate_left;(focus (intro w hSw;go_simp;try with_reducible rfl));try simp only [pt])
 refine pzz ?_;refine dnz ?_;clear hHeld d1;go_wp2_with fail
 have A0:=kp (show AL w.heap.size b w (argsOf n) w2.drew (.slice none 0 0) [] from⟨B2.out.drew,by show w.heap.size+1 < w2.heap.size;have:=Z2.out;omega,T2.out,S2.out,World.ownsRow_nil _ _ _ _,fun k h=>by simp at h⟩);clear B2 S2 T2 Z2 B1 S1 Z1;generalize w2.drew=w3 at *
 go_loopw [28] (fun v wr=>∃ j:Nat,j<=m/\v=.int .i64 j/\∃ rv vs,vs.length=j/\AL w.heap.size b w (argsOf n) wr rv vs) (fun v _=>m - (intOf v).toNat)
 case atStart=>exact⟨0,Nat.zero_le _,rfl,_,_,rfl,A0.out⟩
 case round =>
  obtain ⟨j,hj,rfl,rv,vs,hvs,hA⟩:=hrel;have AR:=kp hA;have z5:=hA.ab.cell;have zb:=hA.big
  by_cases hlt:j < m
  ·have hlt2:(j:Int) < (m:Int):=by omega
   have HG:=kp (args_get HOk.out (i:=j) (by rw [hm];exact hlt2))
   have ca:wr.cell? ⟨nb,no+k * 8+2+j,none⟩=some (.int .i64 (n.arg j)):=by
    obtain ⟨_,_,_,a0,a1,a2,_⟩:=HN.out wr (HB0.out.trans (hA.below.mono hsb));have hc:j=0\/j=1\/j=2:=by omega
    rcases hc with rfl | rfl | rfl
    ·exact a0
    ·exact a1
    ·exact a2
   generalize n.arg j=aj at HG ca;have Hn:=kp (heap_alloc_new wr (.cells #[.int .i64 aj] 3));have Hb:=kp ((brq wr).alloc nlq (.cells #[.int .i64 aj] 3));have hHz:wr.heap.size < (wr.alloc (.cells #[.int .i64 aj] 3)).heap.size:=by simp
   have HOw:=kp hA.own;clear hA;go_upto_region 6 with fail
   generalize wr.alloc (.cells #[.int .i64 aj] 3)=wa at *;have y5:wa.cell? ⟨w.heap.size+1,0,none⟩=some rv:=(Hb.out.cell (p:=⟨w.heap.size+1,0,none⟩) zb).trans z5;have HOa:=kp (own_on HOw.out Hb.out);clear z5 ca HOw
   go_wp2_with (at_builtin;refine wpList_append_own _ rfl _ _ 98 rfl w.heap.size 1 i0 .nilFunc 1 8 Tryz.underlying98 hi hz0 hz1 hz2 rfl (by decide) _ _ _ rfl (HOa.out.alloc _) ⟨wa.heap.size,0,none⟩ 1 1 [.func (.func 40) #[] #[.pointer (some ⟨w.heap.size,0,none⟩),.pointer (some ⟨wr.heap.size,0,none⟩)]] rfl rfl ?c1 ?c2 ?c3 ?c4 ?c5 ?_)
   case c1 =>
    intro j u hj
    match j,hj with
    | 0,hj=>simp at hj;subst hj;simp [Addr.add]
   case c2=>intro u hu;simp at hu;subst hu;rfl
   case c3=>unfold maxLen;omega
   case c4=>omega
   case c5=>simp;omega
   intro v' w5 hown hgrow _
   obtain ⟨ao,nx,cap,rfl⟩:∃ ao nx cap,v'=.slice ao nx cap:=by
    rcases hown.2 with⟨hv,_⟩ | ⟨g,cap,cur,hv,_⟩
    ·exact⟨_,_,_,hv⟩
    ·exact⟨_,_,_,hv⟩
   have Ha:=kp (Hb.out.trans ((brq wa).alloc nlq (.cells #[.func (.func 40) #[] #[.pointer (some ⟨w.heap.size,0,none⟩),.pointer (some ⟨wr.heap.size,0,none⟩)]] 1) |>.mono Hb.out.size));have Hna:=kp (show Box1 (wa.alloc (.cells #[.func (.func 40) #[] #[.pointer (some ⟨w.heap.size,0,none⟩),.pointer (some ⟨wr.heap.size,0,none⟩)]] 1)) wr.heap.size (.int .i64 aj) 3 from(Lib.alloc_old wa _ _ hHz).trans Hn.out);have AN:=kp (AR.out.push (a:=aj) (by rw [hvs,List.getD_eq_getElem?_getD,HG.out];rfl) Ha.out Hna.out (by rw [hvs];exact hown) hgrow);have hk5:=AR.out.keep Ha.out hgrow;have d5:=hk5.cell;have f5:w5.frozen? ⟨w.heap.size+1,0,none⟩=false:=Lib.frozen_of_heap hk5 0;clear hown hgrow hk5;go_wp2_with fail
   go_roundw
   case rel=>exact⟨j+1,by omega,by go_num,_,_,by rw [List.length_append,hvs];rfl,AN.out⟩
   case measure=>simp [intOf];omega
  ·obtain rfl:j=m:=by omega
   have hbs:b < w.heap.size:=HW.out.lt.1;obtain ⟨A,c,rfl,hpr⟩:=hA.row hbs;have E0:=HW.out.below hA.below;have HP:=kp (hA.writes HF.out HIh.out HB0.out E0 (fun a ha=>args_mem HOk.out ha) hbs);have HPr:=kp hpr;have HLv:=kp (show(argTexts g t n).length=vs.length by unfold argTexts;rw [List.length_map,args_len HOk.out,hm,hvs];rfl);have HE:=kp E0;have HR:=kp ((Wr.refl B b w).of hA.below (by have:=HW.out.lt;omega));rw [hvs] at z5;have zt:=hA.wb.cell;have hnm:=heap_alloc_new wr (.cells #[.string { data:=#[116,114,117,101] },.string { data:=#[110,111,116] },.string { data:=#[97,110,100] },.string { data:=#[111,114] },.string { data:=#[120,111,114] },.string { data:=#[61,62] },.string { data:=#[61] },.string { data:=#[105,116,101] },.string { data:=#[60,61] },.string { data:=#[60] },.string { data:=#[] },.string { data:=#[] },.string { data:=#[] },.string { data:=#[] }] 99);clear hpr E0;have HNm:=kp hnm;have HR4:=kp (HR.out.alloc (by have:=HW.out.lt;have:=hA.below.size;omega) (.cells #[.string { data:=#[116,114,117,101] },.string { data:=#[110,111,116] },.string { data:=#[97,110,100] },.string { data:=#[111,114] },.string { data:=#[120,111,114] },.string { data:=#[61,62] },.string { data:=#[61] },.string { data:=#[105,116,101] },.string { data:=#[60,61] },.string { data:=#[60] },.string { data:=#[] },.string { data:=#[] },.string { data:=#[] },.string { data:=#[] }] 99))
   have HE4:=kp (HE.out.below ((brq wr).alloc nlq (.cells #[.string { data:=#[116,114,117,101] },.string { data:=#[110,111,116] },.string { data:=#[97,110,100] },.string { data:=#[111,114] },.string { data:=#[120,111,114] },.string { data:=#[61,62] },.string { data:=#[61] },.string { data:=#[105,116,101] },.string { data:=#[60,61] },.string { data:=#[60] },.string { data:=#[] },.string { data:=#[] },.string { data:=#[] },.string { data:=#[] }] 99)));have HW4:=kp ((Wr.refl B b wr).alloc (by have:=HW.out.lt;have:=hA.below.size;omega) (.cells #[.string { data:=#[116,114,117,101] },.string { data:=#[110,111,116] },.string { data:=#[97,110,100] },.string { data:=#[111,114] },.string { data:=#[120,111,114] },.string { data:=#[61,62] },.string { data:=#[61] },.string { data:=#[105,116,101] },.string { data:=#[60,61] },.string { data:=#[60] },.string { data:=#[] },.string { data:=#[] },.string { data:=#[] },.string { data:=#[] }] 99));have Z4:=kp (show(wr.alloc (.cells #[.string { data:=#[116,114,117,101] },.string { data:=#[110,111,116] },.string { data:=#[97,110,100] },.string { data:=#[111,114] },.string { data:=#[120,111,114] },.string { data:=#[61,62] },.string { data:=#[61] },.string { data:=#[105,116,101] },.string { data:=#[60,61] },.string { data:=#[60] },.string { data:=#[] },.string { data:=#[] },.string { data:=#[] },.string { data:=#[] }] 99)).heap.size=wr.heap.size+1 by simp)
   have HWb:=kp hA.wb;have HAb:=kp hA.ab;clear hA hnm zt z5;go_upto_region 9 with fail
   generalize wr.alloc (.cells #[.string { data:=#[116,114,117,101] },.string { data:=#[110,111,116] },.string { data:=#[97,110,100] },.string { data:=#[111,114] },.string { data:=#[120,111,114] },.string { data:=#[61,62] },.string { data:=#[61] },.string { data:=#[105,116,101] },.string { data:=#[60,61] },.string { data:=#[60] },.string { data:=#[] },.string { data:=#[] },.string { data:=#[] },.string { data:=#[] }] 99)=w4 at *;have HU:=kp (HB0.out.trans ((HR4.out.below).mono HF.out.hB));have HNa:=kp (HN.out w4 HU.out);have zt:w4.cell? ⟨w.heap.size,0,none⟩=some (.pointer (some ⟨b,0,none⟩)):=by have h:=HW4.out.keep _ _ _ _ (by omega) HWb.out (by decide);exact Box1.cell h
   have z5:w4.cell? ⟨w.heap.size+1,0,none⟩=some (.slice A j c):=by have h:=HW4.out.keep _ _ _ _ (by omega) HAb.out (by decide);rw [hvs] at h;exact Box1.cell h
   obtain ⟨_,o0,o1,_,_,_,_,o6,o7⟩:=HNa.out;rw [hm] at o1;have hNo:n.len=(j:Int):=hm
   have HC0:=kp (fun W (hW:Wr B b w4 W)=>(show W.cell? ⟨w.heap.size,0,none⟩=some (.pointer (some ⟨b,0,none⟩))/\W.cell? ⟨w.heap.size+1,0,none⟩=some (.slice A j c)/\NodeAt W nb (no+k * 8) n from
    ⟨Box1.cell ((HW4.out.trans hW).keep _ _ _ _ (by omega) HWb.out (by decide)),by have h:=(HW4.out.trans hW).keep _ _ _ _ (by omega) HAb.out (by decide);rw [hvs] at h;exact Box1.cell h,HN.out W (HU.out.trans (hW.below.mono HF.out.hB))⟩))
   have HPw:=kp (fun W (hW:Wr B b w4 W) i hi hT=>(HP.out i hi hT).on (HW4.out.trans hW));have HNum:=kp (fun(n':Int) (hm':mayB n'=true) (h64:I64 n') (u:World) (hu:Below w4.heap.size w4 u)=>wrnum_full (B:=B) (b:=b) (x:=.pointer (some ⟨gb,0,none⟩)) (y:=.pointer (some ⟨tb,0,none⟩)) (w:=u) hm' h64 (fun v hv=>HF.out.tab v (HU.out.trans ((hu.mono (by have:=HU.out.size;have:=HF.out.hB;have:=HE4.out.lt;omega)).trans (hv.mono HF.out.hB)))) HE4.out.lt.2 (by have:=HE4.out.lt;have:=hu.size;omega));have HTe:=kp (show(exprX g t k).textL=(exprN g n ((argsOf n).map (exprX g t))).textL by rw [HX.out]);have HBw:=kp (show B<=w4.heap.size by have:=HE4.out.lt;omega);have HSt:=kp (fun(s:ByteArray) (u:World) (hu:Below w4.heap.size w4 u) (h:l.length+s.size<=140737488355328)=>e_wstr_any B b l s u (HE4.out.below hu) h (by have:=HBw.out;have:=hu.size;omega));have HFr:=kp (fun u (hu:Below w4.heap.size w4 u)=>HR4.out.of hu HBw.out);have HLi:=kp (fun(name:ByteArray) (u:World) (A':Option Addr) (c':Nat) (vs':List Value) (Ts:List (List UInt8)) (hu:Below w4.heap.size w4 u)=>wrlist_any (w:=u) (A:=A') (c:=c') (vs:=vs') (Ts:=Ts) name (HE4.out.below hu));have HKi':=HKi.out;clear hNo HX HKi HIh;rcases HKi'.1 with h0 | h0 | h0 | h0 | h0 | h0
   ·rw [text_true h0] at HTe;rw [HTe.out] at HLen;rw [h0] at o0;have HS:=kp (HSt.out { data:=#[116,114,117,101] } w4 (Below.refl _ _) HLen.out);rw [show Lx.bs { data:=#[116,114,117,101] }=[116,114,117,101] by decide] at HS;clear HKi' o1 o6 o7 z5;go_wp2_with fail
    refine HS.out.mono ?_;rintro e w6 ⟨rfl,h6,hb6⟩;have HZ:=kp (And.intro h6 (HR4.out.trans hb6));clear h6 hb6;go_wp2_with fail
    go_end0
    exact⟨rfl,by rw [HTe.out];exact HZ.out⟩
   ·rw [text_num h0] at HTe;rw [HTe.out] at HLen;rw [h0] at o0
    have HC:=kp (fun W (hW:Wr B b w4 W)=>(show W.cell? ⟨w.heap.size,0,none⟩=some (.pointer (some ⟨b,0,none⟩))/\W.cell? ⟨w.heap.size+1,0,none⟩=some (.slice A j c)/\W.cell? ⟨nb,no+k * 8+7,none⟩=some (.int .i64 n.n)/\True from by
     obtain ⟨y1,y2,_,y3,y4,_,_,_,_,y5,y6⟩:=HC0.out W hW;exact⟨y1,y2,y6,trivial⟩))
    have HM:=kp (HNum.out n.n (HOk.out.num (.inl h0)) HNi.out.n w4.drew ((brq w4).drew));clear HKi' o1 o6 o7 z5;go_upto_region 14 with fail
    refine wp_region_held_drew (S:=fun W=>Wr B b w4 W) (by kernel_rfl) ((Wr.refl B b w4).drew) (fun hHeld=>?_);refine plz [0,1,2,3,4] ?_;iterate 5 (refine tnz (v:=?_) ?_ ?_;rotate_left;(focus (intro w hSw;(obtain ⟨z1,z2,z3,z4⟩:=HC.out _ hSw;go_simp;try with_reducible rfl)));try simp only [pt])
    refine pzz ?_;refine rd 5 fun K hK=>?_;go_simp
    go_wp2_with (go_at_call 42;refine HM.out.mono ?_;rintro e w5 ⟨c1,c2,rfl,hb5,hr5⟩)
    refine hK.out _ _ ((Wr.refl B b w4).of ((brq w4).drew.trans hb5) HBw.out) (fun hHeld=>?_);clear hK K;try simp only [pt]
    have HH5:=kp hHeld;have HQ:=kp (hr5 l w5 (Wr.refl B b w5) (HE4.out.below ((brq w4).drew.trans hb5)) HLen.out);clear hr5 hb5;refine rd 6 fun K hK=>?_;go_simp
    go_wp2_with (go_at_call 75;refine HQ.out.mono ?_;rintro e w6 ⟨rfl,h6,hb6⟩)
    refine hK.out _ _ (HH5.out.trans hb6) (fun hHeld=>?_);clear hK K;try simp only [pt]
    refine dnz ?_;have HZ:=kp (And.intro h6 (HR4.out.trans (HH5.out.trans hb6)));clear hHeld h6 hb6;go_wp2_with fail
    go_end0
    exact⟨rfl,by rw [HTe.out];exact HZ.out⟩
   ·have hl1:=HKi'.2 h0;obtain rfl:j=1:=by omega
    obtain ⟨v0,rfl⟩:∃ v0,vs=[v0]:=by
     match vs,hvs with
     | [x],_=>exact⟨x,rfl⟩
    obtain ⟨T0,hT0⟩:∃ T0,argTexts g t n=[T0]:=by
     have h:=HLv.out
     match hh:argTexts g t n,h with
     | [x],_=>exact⟨x,rfl⟩
    have HPw0:=kp (fun W (hW:Wr B b w4 W)=>(show Writes B b (.pointer (some ⟨gb,0,none⟩)) (.pointer (some ⟨tb,0,none⟩)) v0 T0 W from by have h:=HPw.out W hW 0 (by simp) (by rw [hT0];simp);simpa [hT0] using h));obtain ⟨ba,hA0,_⟩:=HPr.out.get HW4.out (k:=0) (by simp);subst hA0
    have HC:=kp (fun W (hW:Wr B b w4 W)=>(show W.cell? ⟨w.heap.size,0,none⟩=some (.pointer (some ⟨b,0,none⟩))/\W.cell? ⟨w.heap.size+1,0,none⟩=some (.slice (some ⟨ba,0,none⟩) 1 c)/\W.cell? ⟨nb,no+k * 8+7,none⟩=some (.int .i64 n.n)/\W.cell? ⟨ba,0,none⟩=some v0 from by
     obtain ⟨y1,y2,_,y3,y4,_,_,_,_,y5,y6⟩:=HC0.out W hW;obtain ⟨ba',e1,e2⟩:=HPr.out.get (HW4.out.trans hW) (k:=0) (by simp);simp only [Option.some.injEq,Addr.mk.injEq,and_true] at e1;subst e1;exact⟨y1,y2,y6,e2⟩))
    have hnum:=HOk.out.num (.inr (.inl h0));have hmb:=mayB_iff.1 hnum;obtain ⟨fk,k1,k2,hfk,rfl,_⟩:=HPw0.out w4 (Wr.refl B b w4);have HV0:=kp (show(Value.func (.func fk) #[] #[k1,k2]).oneCell'=true from rfl);rw [h0] at o0;clear o1 o6 z5 zt HKi'
    by_cases hn0:n.n < 0
    ·have e0:decide (n.n < 0)=true:=decide_eq_true hn0;rw [text_sub h0 hn0,argTexts_gaps,hT0] at HTe;rw [HTe.out] at HLen;have hmN:mayB (-n.n)=true:=mayB_iff.2 (by omega);have h64:I64 (-n.n):=⟨by omega,by omega⟩;have HM:=kp (HNum.out (-n.n) hmN h64 w4.drew ((brq w4).drew));have hnt:(numX (-n.n)).textL=Lib.itoa (-n.n):=by rw [num_text,if_neg (by omega)]
     rw [hnt] at HM;have HWp:=kp (show IntKind.i64.wrap (-n.n)=-n.n from IntWalk.i64_in _ (by omega));clear hT0 hnum hnt;go_upto_region 17 with fail
     refine wp_region_held_drew (S:=fun W=>Wr B b w4 W) (by kernel_rfl) ((Wr.refl B b w4).drew) (fun hHeld=>?_);refine plz [0,1,2,3,4,5,6,7,8,9] ?_;iterate 10 (refine tnz (v:=?_) ?_ ?_;rotate_left;(focus (intro w hSw;(obtain ⟨z1,z2,z3,z4⟩:=HC.out _ hSw;go_simp;try with_reducible rfl)));try simp only [pt])
     refine pzz ?_;refine rd 10 fun K hK=>?_;go_simp
     go_wp2_with (go_at_call 42;rw [HWp.out];refine HM.out.mono ?_;rintro e w5 ⟨c1,c2,rfl,hb5,hr5⟩)
     refine hK.out _ _ ((Wr.refl B b w4).of ((brq w4).drew.trans hb5) HBw.out) (fun hHeld=>?_);clear hK K;try simp only [pt]
     have HB5:=kp ((brq w4).drew.trans hb5);have HR5:=kp hr5;have Hz5:=kp (show B<=w5.heap.size by have h1:=HBw.out;have h2:w4.heap.size<=w5.heap.size:=HB5.out.size;omega);have HH6:=kp (hHeld.alloc Hz5.out (.cells #[.func (.func fk) #[] #[k1,k2],.func (.func 75) #[] #[c1,c2]] 1));have HL:=kp (HLi.out ({ data:=#[45] }:ByteArray) (w5.alloc (.cells #[.func (.func fk) #[] #[k1,k2],.func (.func 75) #[] #[c1,c2]] 1)) (some ⟨w5.heap.size,0,none⟩) 2 [.func (.func fk) #[] #[k1,k2],.func (.func 75) #[] #[c1,c2]] [T0,Lib.itoa (-n.n)] (HB5.out.alloc HB5.out.size _) (.inr ⟨_,_,_,rfl,by have h1:=HE4.out.lt;have h2:w4.heap.size<=w5.heap.size:=HB5.out.size;omega,heap_alloc_new w5 _,rfl⟩) rfl (by simp) ?hp ?hl)
     case hp =>
      intro i hi hT
      match i,hi with
      | 0,_=>exact HPw0.out _ HH6.out
      | 1,_=>exact⟨_,_,_,.inr (.inr rfl),rfl,fun l' u hu=>HR5.out l' u (((Wr.refl B b w5).alloc Hz5.out _).trans hu)⟩
     case hl=>have h:=HLen.out;simp only [gaps,List.flatMap_cons,List.flatMap_nil,List.length_append,List.length_cons,List.length_nil] at h ⊢;have:(({ data:=#[45] }:ByteArray):ByteArray).size=1:=rfl;omega
     clear hr5 hb5;refine rd 11 fun K hK=>?_;go_simp;refine hK.out _ _ (HH6.out) (fun hHeld=>?_);clear hK K;try simp only [pt]
     refine rd 12 fun K hK=>?_;go_simp
     go_wp2_with (go_at_call 43;refine HL.out.mono ?_;rintro e w6 ⟨rfl,h6,hb6⟩)
     refine hK.out _ _ (HH6.out.trans hb6) (fun hHeld=>?_);clear hK K;try simp only [pt]
     refine dnz ?_;have HZ:=kp (And.intro h6 (HR4.out.trans (HH6.out.trans hb6)));clear hHeld h6 hb6;go_wp2_with fail
     go_end0
     refine⟨rfl,?_⟩;rw [HTe.out];have h:=HZ.out;have hbn:Lx.bs ({ data:=#[45] }:ByteArray)=[45]:=by decide
     rw [hbn] at h
     simpa [gaps] using h
    ·have e0:decide (n.n < 0)=false:=dfq hn0;rw [text_add h0 hn0,argTexts_gaps,hT0] at HTe;rw [HTe.out] at HLen;have HM:=kp (HNum.out n.n hnum HNi.out.n w4.drew ((brq w4).drew));have hnt:(numX n.n).textL=Lib.itoa n.n:=by rw [num_text,if_neg hn0]
     rw [hnt] at HM;clear hT0 hnum hnt;go_upto_region 18 with fail
     refine wp_region_held_drew (S:=fun W=>Wr B b w4 W) (by kernel_rfl) ((Wr.refl B b w4).drew) (fun hHeld=>?_);refine plz [0,1,2,3,4,5,6,7,8] ?_;iterate 9 (refine tnz (v:=?_) ?_ ?_;rotate_left;(focus (intro w hSw;(obtain ⟨z1,z2,z3,z4⟩:=HC.out _ hSw;go_simp;try with_reducible rfl)));try simp only [pt])
     refine pzz ?_;refine rd 9 fun K hK=>?_;go_simp
     go_wp2_with (go_at_call 42;refine HM.out.mono ?_;rintro e w5 ⟨c1,c2,rfl,hb5,hr5⟩)
     refine hK.out _ _ ((Wr.refl B b w4).of ((brq w4).drew.trans hb5) HBw.out) (fun hHeld=>?_);clear hK K;try simp only [pt]
     have HB5:=kp ((brq w4).drew.trans hb5);have HR5:=kp hr5;have Hz5:=kp (show B<=w5.heap.size by have h1:=HBw.out;have h2:w4.heap.size<=w5.heap.size:=HB5.out.size;omega);have HH6:=kp (hHeld.alloc Hz5.out (.cells #[.func (.func fk) #[] #[k1,k2],.func (.func 75) #[] #[c1,c2]] 1));have HL:=kp (HLi.out ({ data:=#[43] }:ByteArray) (w5.alloc (.cells #[.func (.func fk) #[] #[k1,k2],.func (.func 75) #[] #[c1,c2]] 1)) (some ⟨w5.heap.size,0,none⟩) 2 [.func (.func fk) #[] #[k1,k2],.func (.func 75) #[] #[c1,c2]] [T0,Lib.itoa n.n] (HB5.out.alloc HB5.out.size _) (.inr ⟨_,_,_,rfl,by have h1:=HE4.out.lt;have h2:w4.heap.size<=w5.heap.size:=HB5.out.size;omega,heap_alloc_new w5 _,rfl⟩) rfl (by simp) ?hp ?hl)
     case hp =>
      intro i hi hT
      match i,hi with
      | 0,_=>exact HPw0.out _ HH6.out
      | 1,_=>exact⟨_,_,_,.inr (.inr rfl),rfl,fun l' u hu=>HR5.out l' u (((Wr.refl B b w5).alloc Hz5.out _).trans hu)⟩
     case hl=>have h:=HLen.out;simp only [gaps,List.flatMap_cons,List.flatMap_nil,List.length_append,List.length_cons,List.length_nil] at h ⊢;have:(({ data:=#[43] }:ByteArray):ByteArray).size=1:=rfl;omega
     clear hr5 hb5;refine rd 10 fun K hK=>?_;go_simp;refine hK.out _ _ (HH6.out) (fun hHeld=>?_);clear hK K;try simp only [pt]
     refine rd 11 fun K hK=>?_;go_simp
     go_wp2_with (go_at_call 43;refine HL.out.mono ?_;rintro e w6 ⟨rfl,h6,hb6⟩)
     refine hK.out _ _ (HH6.out.trans hb6) (fun hHeld=>?_);clear hK K;try simp only [pt]
     refine dnz ?_;have HZ:=kp (And.intro h6 (HR4.out.trans (HH6.out.trans hb6)));clear hHeld h6 hb6;go_wp2_with fail
     go_end0
     refine⟨rfl,?_⟩;rw [HTe.out];have h:=HZ.out;have hbn:Lx.bs ({ data:=#[43] }:ByteArray)=[43]:=by decide
     rw [hbn] at h
     simpa [gaps] using h
   ·rw [text_diff h0,argTexts_gaps] at HTe;rw [HTe.out] at HLen;rw [h0] at o0
    have HC:=kp (fun W (hW:Wr B b w4 W)=>(show W.cell? ⟨w.heap.size,0,none⟩=some (.pointer (some ⟨b,0,none⟩))/\W.cell? ⟨w.heap.size+1,0,none⟩=some (.slice A j c)/\W.cell? ⟨nb,no+k * 8+7,none⟩=some (.int .i64 n.n)/\True from by
     obtain ⟨y1,y2,_,y3,y4,_,_,_,_,y5,y6⟩:=HC0.out W hW;exact⟨y1,y2,y6,trivial⟩))
    have HM:=kp (HNum.out n.n (HOk.out.num (.inr (.inr h0))) HNi.out.n w4.drew ((brq w4).drew))
    have HPw0:=kp (fun W (hW:Wr B b w4 W)=>(show Writes B b (.pointer (some ⟨gb,0,none⟩)) (.pointer (some ⟨tb,0,none⟩)) (.func (.func 44) #[] #[.pointer (some ⟨w.heap.size,0,none⟩),.pointer (some ⟨w.heap.size+1,0,none⟩)]) (40 :: ([45] ++ gaps (argTexts g t n) ++ [41])) W from
     ⟨_,_,_,.inr (.inl rfl),rfl,fun l' u hu hw' hlen'=>wrput2_any (by have h:=(HW4.out.trans (hW.trans hu)).keep _ _ _ _ (by omega) HAb.out (by decide);exact h) (by have h:=(HW4.out.trans (hW.trans hu)).keep _ _ _ _ (by omega) HWb.out (by decide);exact h)
      (by
       have h:=wrlist_any (c:=c) { data:=#[45] } hw' (HPr.out.on (HW4.out.trans (hW.trans hu))) HLv.out (by omega) (fun i hi hT=>HPw.out _ (hW.trans hu) i hi hT) (by have h1:=hlen';simp only [List.length_append,List.length_cons,List.length_nil] at h1 ⊢;have:(({ data:=#[45] }:ByteArray)).size=1:=rfl;omega);exact h)⟩))
    clear HKi' o1 o6 o7 z5;go_upto_region 20 with fail
    refine wp_region_held_drew (S:=fun W=>Wr B b w4 W) (by kernel_rfl) ((Wr.refl B b w4).drew) (fun hHeld=>?_);refine plz [0,1,2,3,4,5,6] ?_;iterate 7 (refine tnz (v:=?_) ?_ ?_;rotate_left;(focus (intro w hSw;(obtain ⟨z1,z2,z3,z4⟩:=HC.out _ hSw;go_simp;try with_reducible rfl)));try simp only [pt])
    refine pzz ?_;refine rd 7 fun K hK=>?_;go_simp
    go_wp2_with (go_at_call 42;refine HM.out.mono ?_;rintro e w5 ⟨c1,c2,rfl,hb5,hr5⟩)
    refine hK.out _ _ ((Wr.refl B b w4).of ((brq w4).drew.trans hb5) HBw.out) (fun hHeld=>?_);clear hK K;try simp only [pt]
    have HB5:=kp ((brq w4).drew.trans hb5);have HR5:=kp hr5;have Hz5:=kp (show B<=w5.heap.size by have h1:=HBw.out;have h2:w4.heap.size<=w5.heap.size:=HB5.out.size;omega);have HH6:=kp (hHeld.alloc Hz5.out (.cells #[.func (.func 44) #[] #[.pointer (some ⟨w.heap.size,0,none⟩),.pointer (some ⟨w.heap.size+1,0,none⟩)],.func (.func 75) #[] #[c1,c2]] 1));have HL:=kp (HLi.out ({ data:=#[60,61] }:ByteArray) (w5.alloc (.cells #[.func (.func 44) #[] #[.pointer (some ⟨w.heap.size,0,none⟩),.pointer (some ⟨w.heap.size+1,0,none⟩)],.func (.func 75) #[] #[c1,c2]] 1)) (some ⟨w5.heap.size,0,none⟩) 2 [.func (.func 44) #[] #[.pointer (some ⟨w.heap.size,0,none⟩),.pointer (some ⟨w.heap.size+1,0,none⟩)],.func (.func 75) #[] #[c1,c2]] [40 :: ([45] ++ gaps (argTexts g t n) ++ [41]),(numX n.n).textL] (HB5.out.alloc HB5.out.size _) (.inr ⟨_,_,_,rfl,by have h1:=HE4.out.lt;have h2:w4.heap.size<=w5.heap.size:=HB5.out.size;omega,heap_alloc_new w5 _,rfl⟩) rfl (by simp) ?hp ?hl)
    case hp =>
     intro i hi hT
     match i,hi with
     | 0,_=>exact HPw0.out _ HH6.out
     | 1,_=>exact⟨_,_,_,.inr (.inr rfl),rfl,fun l' u hu=>HR5.out l' u (((Wr.refl B b w5).alloc Hz5.out _).trans hu)⟩
    case hl=>have h:=HLen.out;simp only [gaps,List.flatMap_cons,List.flatMap_nil,List.length_append,List.length_cons,List.length_nil] at h ⊢;have:(({ data:=#[60,61] }:ByteArray):ByteArray).size=2:=rfl;omega
    clear hr5 hb5;refine rd 8 fun K hK=>?_;go_simp;refine hK.out _ _ (HH6.out) (fun hHeld=>?_);clear hK K;try simp only [pt]
    refine rd 9 fun K hK=>?_;go_simp
    go_wp2_with (go_at_call 43;refine HL.out.mono ?_;rintro e w6 ⟨rfl,h6,hb6⟩)
    refine hK.out _ _ (HH6.out.trans hb6) (fun hHeld=>?_);clear hK K;try simp only [pt]
    refine dnz ?_;have HZ:=kp (And.intro h6 (HR4.out.trans (HH6.out.trans hb6)));clear hHeld h6 hb6;go_wp2_with fail
    go_end0
    refine⟨rfl,?_⟩;rw [HTe.out];have h:=HZ.out;have hbn:Lx.bs ({ data:=#[60,61] }:ByteArray)=[60,61]:=by decide
    rw [hbn] at h
    simpa [gaps] using h
   ·obtain ⟨r,f,hr,hf,_⟩:=HAf.out h0;have hrl:=(gqs hf).1;have hrl2:(r:Int) < (g.funs.length:Int):=by omega
    have hfn:funName g n.fn=f.name:=by unfold funName;rw [hr,Int.toNat_natCast,hf];rfl
    have HQt:=kp (fun W=>Lx.quote_any f.name W (HF.out.names f (mgq hf)));obtain ⟨fb,fo,hfa,hfc,_⟩:=fun_get HF.out.funs hf
    have HC:=kp (fun W (hW:Below w4.heap.size w4 W)=>(show W.cell? ⟨w.heap.size,0,none⟩=some (.pointer (some ⟨b,0,none⟩))/\W.cell? ⟨b,2,none⟩=some (.pointer (some ⟨gb,0,none⟩))/\W.cell? ⟨gb,1,none⟩=some (.slice (some ⟨fb,fo,none⟩) g.funs.length c2)/\W.cell? ⟨nb,no+k * 8+6,none⟩=some (.int .i64 (r:Int))/\W.cell? ⟨fb,fo+r * 6,none⟩=some (.string f.name)/\W.cell? ⟨nb,no+k * 8+1,none⟩=some (.int .i8 (j:Int)) from by
     have hW0:=HU.out.trans (hW.mono (by have:=HBw.out;have:=HF.out.hB;omega));obtain ⟨y1,y2,_,y3,y4,_,_,_,_,y5,y6⟩:=HC0.out W ((Wr.refl B b w4).of hW HBw.out);exact⟨y1,(HE4.out.below hW).cells.1,by rw [← hfa];exact(hW0.cell (p:=⟨gb,1,none⟩) HF.out.gl).trans HF.out.gbox,by rw [← hr];exact y5,(hW0.cell (p:=⟨fb,fo+r * 6,none⟩) hfc.1).trans hfc.2.1,by rw [← hm];exact y4⟩))
    rw [h0] at o0;clear hfc hfa HKi' o1 o6 o7 z5 zt;go_upto_region 22 with fail
    refine wp_region_held_drew (S:=fun W=>Below w4.heap.size w4 W) (by kernel_rfl) ((brq w4).drew) (fun hHeld=>?_);refine plz [0,1,2,3,4,5,6,7,8,9,10,11,12,13] ?_;iterate 14 (refine tnz (v:=?_) ?_ ?_;rotate_left;(focus (intro w hSw;(obtain ⟨z1,z2,z3,z4,z5,z6⟩:=HC.out _ hSw;go_simp;try with_reducible rfl)));try simp only [pt])
    refine pzz ?_;refine rd 14 fun K hK=>?_;go_simp
    go_wp2_with (go_at_call 45;refine(HQt.out _).mono ?_;rintro e w5 ⟨rfl,rfl⟩)
    refine hK.out _ _ (hHeld) (fun hHeld=>?_);clear hK K;try simp only [pt]
    refine tk 15 (v:=?_) ?_ ?_;rotate_left
    ·(intro w hSw;(obtain ⟨z1,z2,z3,z4,z5,z6⟩:=HC.out _ hSw;go_simp;try with_reducible rfl))
    try simp only [pt]
    refine dnz ?_;clear hHeld;obtain ⟨z1,z2,_,_,_,z6⟩:=HC.out _ ((brq w4).drew);have hQ:Lx.bs (Lx.quoteS f.name)=Lx.quoteL (Lx.bs f.name):=Lx.bs_quoteS f.name
    by_cases hj0:j=0
    ·subst hj0;rw [text_name h0 (by rw [hm];rfl),hfn,← hQ] at HTe;rw [HTe.out] at HLen;have HS:=kp (HSt.out (Lx.quoteS f.name) w4.drew ((brq w4).drew) (by rw [← Lx.bs_length];exact HLen.out));clear hQ;go_wp2_with fail
     refine HS.out.mono ?_;rintro e w6 ⟨rfl,h6,hb6⟩;have HZ:=kp (And.intro h6 (HR4.out.trans ((Wr.refl B b w4).drew.trans hb6)));clear h6 hb6;go_wp2_with fail
     go_end0
     exact⟨rfl,by rw [HTe.out];exact HZ.out⟩
    ·rw [text_app h0 (by rw [hm];omega),hfn,← hQ,argTexts_gaps] at HTe;rw [HTe.out] at HLen;have hj1:((j:Int) == 0)=false:=beq_eq_false_iff_ne.2 (by omega);obtain ⟨_,z5,_⟩:=HC0.out _ ((Wr.refl B b w4).drew);have HL:=kp (HLi.out (Lx.quoteS f.name) w4.drew A c vs (argTexts g t n) ((brq w4).drew) ?p1 HLv.out (by omega) (fun i hi hT=>HPw.out _ (Wr.refl B b w4).drew i hi hT) ?p2)
     case p1=>exact HPr.out.on ((HW4.out).drew)
     case p2=>have h:=HLen.out;simp only [List.length_append,List.length_cons,List.length_nil,Lx.bs_length] at h;omega
     rw [hvs] at HL;clear hQ hj0;go_wp2_with fail
     refine HL.out.mono ?_;rintro e w6 ⟨rfl,h6,hb6⟩;have HZ:=kp (And.intro h6 (HR4.out.trans ((Wr.refl B b w4).drew.trans hb6)));clear h6 hb6;go_wp2_with fail
     go_end0
     exact⟨rfl,by rw [HTe.out];exact HZ.out⟩
   ·obtain ⟨q,hq⟩:∃ q:Nat,n.op=(q:Int):=⟨n.op.toNat,by omega⟩;have hq1:1<=q:=by omega
    have hq9:q<=9:=by omega
    rw [text_op (by omega) (by omega) (by omega) (by omega) (by omega),argTexts_gaps] at HTe;rw [HTe.out] at HLen;rw [hq] at o0 HLen HTe;have g0:((q:Int) == 0)=false:=beq_eq_false_iff_ne.2 (by omega);have g1:((q:Int) == 10)=false:=beq_eq_false_iff_ne.2 (by omega);have g2:((q:Int) == 11)=false:=beq_eq_false_iff_ne.2 (by omega);have g3:((q:Int) == 12)=false:=beq_eq_false_iff_ne.2 (by omega);have g4:((q:Int) == 13)=false:=beq_eq_false_iff_ne.2 (by omega);have hq14:(q:Int) < 14:=by omega
    have hq128:(q:Int) < 128:=by omega
    have HQn:=kp (name_at q hq1 hq9);have HNq:=kp (fun W (hW:Wr B b w4 W)=>(cell_of_cells (hW.keep _ _ _ _ (by have:=HE.out.lt;omega) HNm.out (by decide)) q).trans (name_at q hq1 hq9))
    have HC:=kp (fun W (hW:Wr B b w4 W)=>(show W.cell? ⟨w.heap.size,0,none⟩=some (.pointer (some ⟨b,0,none⟩))/\W.cell? ⟨w.heap.size+1,0,none⟩=some (.slice A j c)/\W.cell? ⟨nb,no+k * 8,none⟩=some (.int .i8 (q:Int))/\W.cell? ⟨wr.heap.size,q,none⟩=some (.string (opName q)) from by
     obtain ⟨y1,y2,_,y3,y4,_,_,_,_,y5,y6⟩:=HC0.out W hW;exact⟨y1,y2,by rw [← hq];exact y3,HNq.out W hW⟩))
    have HL:=kp (HLi.out (opName q) w4.drew A c vs (argTexts g t n) ((brq w4).drew) ?p1 HLv.out (by omega) (fun i hi hT=>HPw.out _ (Wr.refl B b w4).drew i hi hT) ?p2)
    case p1=>exact HPr.out.on ((HW4.out).drew)
    case p2=>have h:=HLen.out;unfold wordL at h;simp only [List.length_append,List.length_cons,List.length_nil,Lx.bs_length] at h;omega
    rw [hvs] at HL;have HL2:=kp (show l ++ 40 :: (Lx.bs (opName q) ++ gaps (argTexts g t n) ++ [41])=l ++ 40 :: (wordL q ++ gaps (argTexts g t n) ++ [41]) from rfl);rw [HL2.out] at HL;clear HKi' o1 o6 o7 h0 hq1 hq9 HL2 HLen;go_upto_region 10 with fail
    refine wp_region_held_drew (S:=fun W=>Wr B b w4 W) (by kernel_rfl) ((Wr.refl B b w4).drew) (fun hHeld=>?_);refine plz [0,1,2,3,4,5,6,7] ?_;iterate 8 (refine tnz (v:=?_) ?_ ?_;rotate_left;(focus (intro w hSw;(obtain ⟨z1,z2,z3,z4⟩:=HC.out _ hSw;go_simp;try with_reducible rfl)));try simp only [pt])
    refine pzz ?_;refine rd 8 fun K hK=>?_;go_simp
    go_wp2_with (go_at_call 43;refine HL.out.mono ?_;rintro e w6 ⟨rfl,h6,hb6⟩)
    refine hK.out _ _ ((Wr.refl B b w4).drew.trans hb6) (fun hHeld=>?_);clear hK K;try simp only [pt]
    refine dnz ?_;have HZ:=kp (And.intro h6 (HR4.out.trans ((Wr.refl B b w4).drew.trans hb6)));clear hHeld h6 hb6;go_wp2_with fail
    go_end0
    exact⟨rfl,by rw [HTe.out];exact HZ.out⟩
end El
end Go.Proofs.YtpmdcckapddchaaGreatDoor
