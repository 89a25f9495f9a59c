import Derived.Test.YtpmdcckapddchaaGreatDoorShort
import Derived.Test.YtpmdcckapddchaaGreatDoorMd
import Derived.Test.YtpmdcckapddchaaGreatDoorMw
import Derived.Test.YtpmdcckapddchaaGreatDoorMf
/- merged by wip/merge.py from: ElBackP ElSorts3 ElSorts4 -/
set_option maxRecDepth 100000
set_option maxHeartbeats 51200000
namespace Go.Proofs.YtpmdcckapddchaaGreatDoor
namespace El
open Go.RowKit Dt Sg
def NumX:Prop:=∀ n,mayB n=true->numN (numX n)=some (n,0)/\(0<=n->numN (posX n)=some (n,0))
section
variable {g:Sig} {t:List Node} {k:Nat} {n:Node}
theorem table_node (h:tableE g t=0) (hn:t[k]?=some n):standsN n k=true/\sortProg g t n=(n.sort,0):=by
 obtain ⟨h1,h2,h3⟩:=table_parts.1 h;refine⟨standsTo_at (checkT_parts.1 h2).2.1 hn,?_⟩;unfold sortedB at h3;rw [List.all_eq_true] at h3;have:=h3 n (mgq hn);unfold sortedN at this;simp only [Bool.and_eq_true,decide_eq_true_eq] at this;exact Prod.ext this.2 this.1
structure NodeOk (n:Node) (k:Nat):Prop where
 len:0<=n.len/\n.len<=3
 arg:∀ i:Nat,(i:Int) < n.len->0<=n.arg i/\n.arg i < k
 rest:∀ i:Nat,i < 3->n.len<=(i:Int)->n.arg i=0
 fn:n.op≠13->n.fn=0
 num:n.op=10\/n.op=11\/n.op=12->mayB n.n=true
 zero:¬ (n.op=10\/n.op=11\/n.op=12)->n.n=0
theorem node_ok (h:standsN n k=true):NodeOk n k:=by
 unfold standsN at h
 cases ha:arityN n.op with
 | none=>rw [ha] at h;cases h
 | some q =>
  obtain ⟨lo,hi⟩:=q;rw [ha] at h;simp only [Bool.and_eq_true,decide_eq_true_eq,Bool.or_eq_true] at h;obtain ⟨⟨⟨⟨⟨⟨⟨hlen,hsort⟩,a0⟩,a1⟩,a2⟩,hfn⟩,hf13⟩,hnum⟩:=h
  have hb:0<=lo/\hi<=3:=by
   unfold arityN at ha
   repeat' split at ha
   all_goals first
    | (cases ha;done)
    | (simp only [Option.some.injEq,Prod.mk.injEq] at ha;omega)
  have harg:∀ i,i < 3->argOkB n k i=true:=fun i hi=>by
   match i,hi with
   | 0,_=>exact a0
   | 1,_=>exact a1
   | 2,_=>exact a2
  refine⟨⟨by omega,by omega⟩,fun i hi=>?_,fun i hi hl=>?_,fun h13=>?_,fun hk=>?_,fun hk=>?_⟩
  ·have:=harg i (by omega);unfold argOkB at this;rw [if_pos hi] at this;exact of_decide_eq_true this
  ·have:=harg i hi;unfold argOkB at this;rw [if_neg (by omega)] at this;exact of_decide_eq_true this
  ·rcases hf13 with h | h
   ·exact h
   ·exact absurd h h13
  ·rwa [if_pos hk] at hnum
  ·rw [if_neg hk] at hnum;exact of_decide_eq_true hnum
theorem args_get {i:Nat} (h:NodeOk n k) (hi:(i:Int) < n.len):(argsOf n)[i]?=some (n.arg i):=by
 have h3:=h.len;unfold argsOf;rw [List.getElem?_take,if_pos (by omega)];have:i < 3:=by omega
 match i,this with
 | 0,_=>rfl
 | 1,_=>rfl
 | 2,_=>rfl
theorem args_len (h:NodeOk n k):(argsOf n).length=n.len.toNat:=by
 have:=h.len;unfold argsOf;rw [List.length_take];simp
 omega
theorem args_mem (h:NodeOk n k) {a:Int} (ha:a ∈ argsOf n):0<=a/\a < k:=by
 obtain ⟨i,hi⟩:=List.getElem?_of_mem ha;have hl:=(gqs hi).1;rw [args_len h] at hl;have h3:=h.len;rw [args_get h (by omega)] at hi
 cases hi
 exact h.arg i (by omega)
theorem ahead_of (h:tableE g t=0):Ahead t:=fun _ _ hn _ ha=>args_mem (node_ok (table_node h hn).1) ha
def valN (c:Cx) (t:List Node) (a:Int):V:=((nodeAt t a).sort,if c.build=true then a else 0)
def valsN (c:Cx) (t:List Node) (n:Node):List V:=(argsOf n).map (valN c t)
theorem vals_fst (c:Cx) (h:NodeOk n k):(valsN c t n).map Prod.fst=sortsTo t n n.len.toNat:=by
 have h3:=h.len;unfold valsN sortsTo;rw [List.map_map];refine List.ext_getElem? fun i=>?_;rw [List.getElem?_map,List.getElem?_map]
 by_cases hi:i < n.len.toNat
 ·rw [args_get h (by omega),List.getElem?_range hi]
  rfl
 ·rw [List.getElem?_eq_none (by rw [args_len h];omega),List.getElem?_eq_none (by simp;omega)]
  rfl
theorem vals_len (c:Cx) (h:NodeOk n k):(valsN c t n).length=n.len.toNat:=by unfold valsN;rw [List.length_map,args_len h]
theorem vals_nth {c:Cx} (hb:c.build=true) (h:NodeOk n k) {i:Nat} (hi:i < 3):nthN (valsN c t n) i=n.arg i:=by
 have h3:=h.len;unfold nthN valsN;rw [List.getD_eq_getElem?_getD,List.getElem?_map]
 by_cases hl:(i:Int) < n.len
 ·rw [args_get h hl];show(if c.build=true then n.arg i else 0)=_;rw [if_pos hb]
 ·rw [List.getElem?_eq_none (by rw [args_len h];omega),h.rest i hi (by omega)]
  rfl
def StOk (c:Cx) (t:List Node) (st:St):Prop:=st.e=0/\(c.build=true->st.t=t)
theorem put_there (h:tableE g t=0) (hn:t[k]?=some n) (most:Int):putT t n most=(t,(k:Int),0):=by
 obtain ⟨h1,h2,h3⟩:=table_parts.1 h;have hst:=standsTo_at (checkT_parts.1 h2).2.1 hn;have hk:=(gqs hn).1
 have hs:standsN n t.length=true:=by
  have ho:=node_ok hst
  have ha:∀ i,i < 3->argOkB n t.length i=true:=fun i hi=>by
   unfold argOkB
   split
   ·rename_i hl
    have:=ho.arg i hl;exact decide_eq_true ⟨this.1,by omega⟩
   ·rename_i hl
    exact decide_eq_true (ho.rest i hi (by omega))
  unfold standsN at hst ⊢
  cases har:arityN n.op with
  | none=>rw [har] at hst;cases hst
  | some q =>
   obtain ⟨lo,hi⟩:=q;rw [har] at hst;simp only [Bool.and_eq_true] at hst ⊢;exact⟨⟨⟨⟨⟨⟨⟨hst.1.1.1.1.1.1.1,hst.1.1.1.1.1.1.2⟩,ha 0 (by omega)⟩,ha 1 (by omega)⟩,ha 2 (by omega)⟩,hst.1.1.2⟩,hst.1.2⟩,hst.2⟩
 unfold putT;rw [h2,hs];simp only [Bool.and_self,if_true];rw [if_pos (mgq hn)]
 have hf:t.findIdx (fun x=>decide (x=n))=k:=by
  have hx:∃ x ∈ t,decide (x=n)=true:=⟨n,mgq hn,by simp⟩;have hlt:=List.findIdx_lt_length_of_exists hx;have hg:=List.findIdx_getElem (p:=fun x=>decide (x=n)) (xs:=t) (w:=hlt);have hd:=(checkT_parts.1 h2).2.2;have e1:t[t.findIdx (fun x=>decide (x=n))]?=t[k]?:=by rw [gqe hlt,of_decide_eq_true hg,hn]
  exact(List.getElem?_inj hlt hd).1 e1
 rw [hf]
theorem putM_there {c:Cx} (h:tableE g t=0) (hn:t[k]?=some n) {st:St} (hs:StOk c t st):putM c n st=((n.sort,if c.build=true then(k:Int) else 0),st):=by
 unfold putM
 cases hb:c.build with
 | false=>rw [if_pos (.inr rfl),if_neg (by decide)]
 | true =>
  rw [if_neg (fun h=>by rcases h with h | h;exact h hs.1;cases h),hs.2 hb,put_there h hn];show(if(0:Int)=0 then(((n.sort,(k:Int)),{ st with t:=t }):V × St) else _)=_;rw [if_pos rfl,if_pos rfl];have:({ st with t:=t }:St)=st:=by rw [← hs.2 hb]
  rw [this]
theorem opM_there {c:Cx} (h:tableE g t=0) (hn:t[k]?=some n) (h13:n.op≠13) {st:St} (hs:StOk c t st):opM c n.op n.n (valsN c t n) st=((n.sort,if c.build=true then(k:Int) else 0),st):=by
 obtain ⟨hst,hsp⟩:=table_node h hn;have ho:=node_ok hst;unfold sortProg at hsp;rw [if_neg h13,← vals_fst c ho] at hsp
 have hop:opS n.op ((valsN c t n).map Prod.fst)=some n.sort:=by
  cases hq:opS n.op ((valsN c t n).map Prod.fst) with
  | none =>
   have:=(opProg_some.2 hq).2;rw [hsp] at this;rcases this with h | h <;> cases h
  | some s =>
   have:=opProg_some.1 s hq;rw [hsp] at this;simp only [Prod.mk.injEq,and_true] at this;rw [this]
 unfold opM;rw [if_neg (by rw [hs.1];decide),hop];show putM c ⟨n.op,((valsN c t n).length:Nat),nthN (valsN c t n) 0,nthN (valsN c t n) 1,nthN (valsN c t n) 2,n.sort,0,if c.build then n.n else 0⟩ st=_
 cases hb:c.build with
 | false =>
  unfold putM;rw [if_pos (.inr hb)]
  rfl
 | true =>
  have hl:=ho.len
  have e:(⟨n.op,((valsN c t n).length:Nat),nthN (valsN c t n) 0,nthN (valsN c t n) 1,nthN (valsN c t n) 2,n.sort,0,n.n⟩:Node)=n:=by
   rw [vals_len c ho,vals_nth hb ho (by omega),vals_nth hb ho (by omega),vals_nth hb ho (by omega),← ho.fn h13];have:((n.len.toNat:Nat):Int)=n.len:=by omega
   rw [this]
   rfl
  simp only [if_true];rw [e,putM_there h hn hs,hb];simp
end
end El
namespace El
open Go.RowKit Dt Sg
def FitAt (g:Sig) (k:Nat) (m:Macro):Prop:=(termP ⟨g,0,false⟩ k m.body (envOf m.params) (st0 [])).2.e=0/\(termP ⟨g,0,false⟩ k m.body (envOf m.params) (st0 [])).1.1=m.res
def Fit (g:Sig):Prop:=∀ k m,g.macros[k]?=some m->FitAt g k m
def SoS (g:Sig) (most:Int) (s1 s2:St):Prop:=s1.e=0/\s2.e=0/\tableE g s2.t=0/\(s2.t.length:Int)<=most
def SoB (g:Sig) (s1 s2:St):Prop:=(s1.e≠0/\s1.e=s2.e)\/s2.e=10\/s2.e=40\/(¬ Fit g/\s2.e≠0)
def SoR (t:List Node) (v w:V):Prop:=v.1=w.1/\ValIn t w
theorem pw_right {P:V->V->Prop} {Q:V->Prop} (h:∀ v w,P v w->Q w):∀ {l m:List V},Pw P l m->∀ w ∈ m,Q w
 | [],[],_,w,hw=>by cases hw
 | v :: l,u :: m,⟨a,b⟩,w,hw=>by
  rcases List.mem_cons.1 hw with rfl | hw
  ·exact h _ _ a
  ·exact pw_right h b w hw
 | [],_ :: _,h,_,_=>h.elim
 | _ :: _,[],h,_,_=>h.elim
section
variable {g:Sig} {most:Int}
theorem so_put {s1 s2:St} {n:Node} (hs:SoS g most s1 s2) (h1:standsN n s2.t.length=true) (h2:sortProg g s2.t n=(n.sort,0)) :
  OutP (SoS g most) (SoB g) SoR s2.t ((n.sort,0),s1) (putM ⟨g,most,true⟩ n s2):=by
 obtain ⟨e1,e2,ht,hl⟩:=hs;unfold putM;rw [if_neg (by simp [e2])];rcases put_ok ht hl h1 h2 with⟨u,k,hp,hpre,hk,hu,hul⟩ | hp
 ·rw [hp];simp only [if_true];exact .inl ⟨⟨e1,e2,hu,hul⟩,⟨rfl,k,n,rfl,hk,rfl⟩,hpre⟩
 ·rw [hp];simp only;rw [if_neg (by decide)];exact .inr (.inr (.inr (.inl rfl)))
theorem so_op {s1 s2:St} (k n:Int) {l1 l2:List V} (hs:SoS g most s1 s2) (hl:Pw (SoR s2.t) l1 l2) (hn:mayB n=true) (hk:n=0\/k=10\/k=11\/k=12) :
  OutP (SoS g most) (SoB g) SoR s2.t (opM ⟨g,0,false⟩ k n l1 s1) (opM ⟨g,most,true⟩ k n l2 s2):=by
 have hs':=hs;obtain ⟨e1,e2,ht,hle⟩:=hs;have hso:l1.map Prod.fst=l2.map Prod.fst:=hl.sorts fun _ _ h=>h.1;have hin:=pw_right (Q:=ValIn s2.t) (fun _ _ h=>h.2) hl;have q1:¬ s1.e≠0:=by simp [e1]
 have q2:¬ s2.e≠0:=by simp [e2]
 unfold opM;rw [if_neg q1,if_neg q2,hso]
 cases ho:opS k (l2.map Prod.fst) with
 | none=>exact .inr (.inl ⟨by show(33:Int)≠0;decide,rfl⟩)
 | some s =>
  have hp:=so_put hs' (op_stands (table_parts.1 ht).2.1 hin ho hn hk g).1 (op_stands (table_parts.1 ht).2.1 hin ho hn hk g).2
  have h1:putM ⟨g,0,false⟩ ⟨k,l1.length,nthN l1 0,nthN l1 1,nthN l1 2,s,0,0⟩ s1=((s,0),s1):=by
   unfold putM;rw [if_pos (.inr rfl)]
  show OutP (SoS g most) (SoB g) SoR s2.t (putM ⟨g,0,false⟩ ⟨k,l1.length,nthN l1 0,nthN l1 1,nthN l1 2,s,0,0⟩ s1) (putM ⟨g,most,true⟩ ⟨k,l2.length,nthN l2 0,nthN l2 1,nthN l2 2,s,0,n⟩ s2);rw [h1];exact hp
theorem so_number {s1 s2:St} {x:Sexp} (hs:SoS g most s1 s2) (hx:x.stands=true) (hn:isNumX x=true) :
  (SoS g most (numberM ⟨g,0,false⟩ x s1).2 (numberM ⟨g,most,true⟩ x s2).2/\(numberM ⟨g,most,true⟩ x s2).2.t=s2.t/\mayB (numberM ⟨g,0,false⟩ x s1).1=true)\/SoB g (numberM ⟨g,0,false⟩ x s1).2 (numberM ⟨g,most,true⟩ x s2).2:=by
 unfold isNumX at hn;unfold numberM
 cases hx2:numN x with
 | none=>rw [hx2] at hn;cases hn
 | some p =>
  obtain ⟨n,e⟩:=p;obtain ⟨hm,he⟩:=numN_stands hx hx2;simp only;rcases he with rfl | rfl
  ·left
   simp;exact⟨hs,hm⟩
  ·right
   have:failS 10 s2={ s2 with e:=10 }:=by unfold failS;rw [if_pos hs.2.1]
   simp [this];exact .inr (.inl rfl)
theorem sorts_two:∀ (l1 l2:List V) (q:List Int) (s1 s2:St),l1.map Prod.fst=l2.map Prod.fst->s1.e=0->s2.e=0 ->
  (sortsM l1 q s1=s1/\sortsM l2 q s2=s2)\/((sortsM l1 q s1).e=33/\(sortsM l2 q s2).e=33)
 | [],[],_,_,_,_,_,_=>.inl ⟨by unfold sortsM;rfl,by unfold sortsM;rfl⟩
 | v :: l1,w :: l2,[],_,_,_,_,_=>.inl ⟨by unfold sortsM;rfl,by unfold sortsM;rfl⟩
 | v :: l1,w :: l2,s :: q,s1,s2,h,h1,h2=>by
  simp only [List.map_cons,List.cons.injEq] at h;unfold sortsM
  by_cases hv:w.1=s
  ·rw [if_neg (by simp [h.1,hv]),if_neg (by simp [hv])];exact sorts_two l1 l2 q s1 s2 h.2 h1 h2
  ·rw [if_pos ⟨h1,by rw [h.1];exact hv⟩,if_pos ⟨h2,hv⟩]
   right
   rw [sorts_stick l1 q _ (by show(33:Int)≠0;decide),sorts_stick l2 q _ (by show(33:Int)≠0;decide)];exact⟨rfl,rfl⟩
 | [],_ :: _,_,_,_,h,_,_=>by simp at h
 | _ :: _,[],_,_,_,h,_,_=>by simp at h
theorem env_params {t:List Node}:∀ (ps:List Param) (l:List V),l.length=ps.length->(∀ i,i < l.length->(l.getD i v0).1=(ps.map Param.sort).getD i 0)->(∀ v ∈ l,ValIn t v)->EnvP (SoR t) (ps.map fun p=>(p.name,(p.sort,(0:Int)))) ((ps.map Param.name).zip l)
 | [],[],_,_,_=>trivial
 | p :: ps,v :: l,hl,hs,hi=>by
  refine⟨rfl,⟨?_,hi v (by simp)⟩,env_params ps l (by simpa using hl) (fun i h=>?_) (fun w hw=>hi w (by simp [hw]))⟩
  ·have:=hs 0 (by simp);exact this.symm
  ·have:=hs (i+1) (by simpa using h);exact this
 | [],_ :: _,hl,_,_=>by simp at hl
 | _ :: _,[],hl,_,_=>by simp at hl
theorem so_mac {s1 s2:St} (k:Nat) (m:Macro) {l1 l2:List V} (hm:g.macros[k]?=some m) (hs:SoS g most s1 s2) (hl:Pw (SoR s2.t) l1 l2) (hlen:l2.length=m.params.length)
  (hr:∀ {u1 u2 e1 e2},SoS g most u1 u2->EnvP (SoR u2.t) e1 e2->OutP (SoS g most) (SoB g) SoR u2.t (termP ⟨g,0,false⟩ k m.body e1 u1) (termP ⟨g,most,true⟩ k m.body e2 u2)) :
  OutP (SoS g most) (SoB g) SoR s2.t (macroM ⟨g,0,false⟩ (termP ⟨g,0,false⟩) m k l1 s1) (macroM ⟨g,most,true⟩ (termP ⟨g,most,true⟩) m k l2 s2):=by
 obtain ⟨e1,e2,ht,hle⟩:=hs;have hso:l1.map Prod.fst=l2.map Prod.fst:=hl.sorts fun _ _ h=>h.1;have hin:=pw_right (Q:=ValIn s2.t) (fun _ _ h=>h.2) hl;unfold macroM;simp only;rw [if_pos (.inr trivial)];rcases sorts_two l1 l2 (m.params.map Param.sort) s1 s2 hso e1 e2 with⟨h1,h2⟩ | ⟨h1,h2⟩
 ·rw [h1,h2,if_neg (by simp [e2])]
  by_cases hc:300 < s2.calls+1
  ·rw [if_pos hc];exact .inr (.inr (.inr (.inl rfl)))
  rw [if_neg hc];have hsr:=sorts_none l2 (m.params.map Param.sort) s2 e2 h2;have hev:=env_params (t:=s2.t) m.params l2 hlen (fun i hi=>hsr i hi (by rw [List.length_map];omega)) hin;have hout:=hr (u1:=st0 []) (u2:={ s2 with calls:=s2.calls+1 }) (e1:=envOf m.params) (e2:=((m.params.map Param.name).zip l2).reverse) ⟨rfl,e2,ht,hle⟩ (EnvP.reverse hev);have hF:Fit g->(termP ⟨g,0,false⟩ k m.body (envOf m.params) (st0 [])).2.e=0/\(termP ⟨g,0,false⟩ k m.body (envOf m.params) (st0 [])).1.1=m.res:=fun h=>h k m hm;generalize termP ⟨g,0,false⟩ k m.body (envOf m.params) (st0 [])=p at *;generalize termP ⟨g,most,true⟩ k m.body ((m.params.map Param.name).zip l2).reverse { s2 with calls:=s2.calls+1 }=q at *;rcases hout with⟨⟨a1,a2,a3,a4⟩,⟨b1,b2⟩,b3⟩ | hB
  ·by_cases hq:q.1.1=m.res
   ·rw [if_neg (fun h=>h.2 hq)];exact .inl ⟨⟨e1,a2,a3,a4⟩,⟨hq.symm,b2⟩,b3⟩
   ·rw [if_pos ⟨a2,hq⟩];refine .inr (.inr (.inr (.inr ⟨fun hfit=>hq ?_,by show(33:Int)≠0;decide⟩)));rw [← b1];exact(hF hfit).2
  ·have hne:q.2.e≠0:=by
    rcases hB with⟨h1,h2⟩ | h | h | ⟨_,h⟩
    ·rw [← h2];exact h1
    ·rw [h];decide
    ·rw [h];decide
    ·exact h
   rw [if_neg (fun h=>hne h.1)];refine .inr ?_;rcases hB with⟨h1,h2⟩ | h | h | h
   ·exact .inr (.inr (.inr ⟨fun hfit=>h1 (hF hfit).1,hne⟩))
   ·exact .inr (.inl h)
   ·exact .inr (.inr (.inl h))
   ·exact .inr (.inr (.inr h))
 ·rw [if_pos (.inl (by rw [h2];decide))];exact .inr (.inl ⟨by show(sortsM l1 _ s1).e≠0;rw [h1];decide,by show(sortsM l1 _ s1).e=(sortsM l2 _ s2).e;rw [h1,h2]⟩)
end
def simSort (g:Sig) (most:Int):Sim ⟨g,0,false⟩ ⟨g,most,true⟩ where
 same:=rfl
 S:=SoS g most
 B:=SoB g
 R:=SoR
 N:=fun n=>mayB n=true
 ok:=fun h=>⟨h.1,h.2.1⟩
 bad:=fun h h1 h2=>by
  rcases h with⟨a,b⟩ | a | a | ⟨a,b⟩
  ·have e1:=h1 a;have e2:=h2 (by rw [← b];exact a);subst e1 e2;exact .inl ⟨a,b⟩
  ·have e2:=h2 (by rw [a];decide);subst e2;exact .inr (.inl a)
  ·have e2:=h2 (by rw [a];decide);subst e2;exact .inr (.inr (.inl a))
  ·have e2:=h2 b;subst e2;exact .inr (.inr (.inr ⟨a,b⟩))
 bad_ne:=fun h=>by
  rcases h with⟨a,b⟩ | a | a | ⟨a,b⟩
  ·exact .inl a
  ·right;rw [a];decide
  ·right;rw [a];decide
  ·exact .inr b
 mono:=fun h hp=>⟨h.1,h.2.more hp⟩
 sort:=fun h=>h.1
 zero:=by decide
 neg:=may_neg
 nought:=fun {s1 s2} h=>⟨rfl,by
  have h2:=(checkT_parts.1 (table_parts.1 h.2.2.1).2.1).1;refine⟨0,nodeTrue,rfl,?_,rfl⟩;have:(s2.t.take 2)[0]?=some nodeTrue:=by rw [h2];rfl
  rwa [List.getElem?_take_of_lt (by decide)] at this⟩
 op:=fun {s1 s2} k n {l1 l2} hs hl hn hk=>so_op k n hs hl hn hk
 diff:=fun {s1 s2} n {v1 v2 w1 w2} hs hv hw=>by
  unfold diffM;rw [if_neg (by simp)]
  by_cases hm:mayB n=true
  ·rw [if_neg (by simp [hm])];exact so_op 12 n (l1:=[v1,w1]) (l2:=[v2,w2]) hs ⟨hv,hw,trivial⟩ hm (.inr (.inr (.inr rfl)))
  ·rw [if_pos ⟨rfl,hs.2.1,by simpa using hm⟩];exact .inr (.inr (.inl rfl))
 number:=fun hs hx hn=>so_number hs hx hn
 fail:=fun {s1 s2} e hs he=>by
  have a:failS e s1={ s1 with e:=e }:=by unfold failS;rw [if_pos hs.1]
  have b:failS e s2={ s2 with e:=e }:=by unfold failS;rw [if_pos hs.2.1]
  rw [a,b];exact .inl ⟨he,rfl⟩
 app:=fun {s1 s2} k f {l1 l2} hf hs hl hlen hsm=>by
  have hin:=pw_right (Q:=ValIn s2.t) (fun _ _ h=>h.2) hl
  have h3:l2.length<=3:=by
   have hcg:=(table_parts.1 hs.2.2.1).1;unfold checkE at hcg
   split at hcg
   ·rename_i hb
    unfold checkB at hb;simp only [Bool.and_eq_true] at hb;have hfs:=hb.2.1.2;unfold allTo at hfs;rw [List.all_eq_true] at hfs;have hfo:=hfs k (List.mem_range.2 (gqs hf).1);unfold funOk at hfo;have hf':g.funs[k]?=some f:=hf;rw [hf'] at hfo;simp only [Bool.and_eq_true] at hfo;have hfb:=hfo.2;unfold funB at hfb;simp only [Bool.and_eq_true,decide_eq_true_eq] at hfb;have:=hfb.1.1.1.1
    omega
   ·cases hcg
  have ha:=app_stands (table_parts.1 hs.2.2.1).1 hin hf hlen (fun i hi=>by
   have:=sorts_none l2 [f.a0,f.a1,f.a2] s2 hs.2.1 hsm i hi (by simp;omega);rw [this];have hc:i=0\/i=1\/i=2:=by omega
   rcases hc with rfl | rfl | rfl <;> rfl)
  have hp:=so_put (n:=⟨13,f.len,nthN l2 0,nthN l2 1,nthN l2 2,f.res,k,0⟩) hs ha.1 ha.2;unfold appN
  have h1:putM ⟨g,0,false⟩ ⟨13,f.len,nthN l1 0,nthN l1 1,nthN l1 2,f.res,k,0⟩ s1=((f.res,0),s1):=by
   unfold putM;rw [if_pos (.inr rfl)]
  rw [h1];exact hp
 mac:=fun {s1 s2} k m {l1 l2} hm hs hl hlen hr=>so_mac k m hm hs hl hlen hr
end El
namespace El
open Go.RowKit Dt Sg
def fitsB (g:Sig):Bool:=(List.range g.macros.length).all fun i=>decide (checkE g=0) && decide (checkE (cutG g i)=0) && (match g.macros[i]? with
 | some m=>decide (fitsO (cutG g i) m=0)
 | none=>true)
theorem fits_zero {g:Sig} {m:Macro} (h:fitsO g m=0):(sortP g (envOf m.params) m.body).2.e=0/\(sortP g (envOf m.params) m.body).1.1=m.res:=by
 unfold fitsO at h;simp only at h
 have h2:(sortO g (envOf m.params) m.body).2=0/\(sortO g (envOf m.params) m.body).1=m.res:=by
  split at h
  ·cases h
  ·rename_i hn
   exact⟨h,Decidable.byContradiction fun e=>hn ⟨h,e⟩⟩
 unfold sortO at h2
 split at h2
 ·exact absurd h2.1 (by decide)
 ·split at h2
  ·rename_i he
   exact⟨he,h2.2⟩
  ·rename_i he
   exact absurd h2.1 he
theorem fits_fit {g:Sig} (h:fitsB g=true):Fit g:=by
 intro k m hm;have hk:=(gqs hm).1;unfold fitsB at h;rw [List.all_eq_true] at h;have h1:=h k (List.mem_range.2 hk);rw [hm] at h1;simp only [Bool.and_eq_true,decide_eq_true_eq] at h1;have h2:=fits_zero h1.2;unfold sortP at h2;rw [show(cutG g k).macros.length=k by show(g.macros.take k).length=k;rw [List.length_take];omega,term_cut g k 0 false _ k m.body (Nat.lt_succ_self _) nlq] at h2;exact h2
theorem macro_bodies {g:Sig} (hg:checkE g=0):∀ m ∈ g.macros,m.body.stands=true:=by
 intro m hm;unfold checkE at hg
 split at hg
 ·rename_i hb
  unfold checkB at hb;simp only [Bool.and_eq_true] at hb;have hms:=hb.2.2;unfold allTo at hms;rw [List.all_eq_true] at hms;obtain ⟨k,hk⟩:=List.getElem?_of_mem hm;have hmo:=hms k (List.mem_range.2 (gqs hk).1);unfold macOk at hmo;rw [hk] at hmo;simp only [Bool.and_eq_true] at hmo;have hmb:=hmo.2;unfold macroB at hmb;simp only [Bool.and_eq_true] at hmb;have:=hmb.1.2;unfold Sexp.may at this;rw [Bool.and_eq_true] at this;exact this.2
 ·cases hg
theorem newT_sorted (g:Sig):sortedB g newT=true:=by
 refine sortedB_all fun k n hk hn=>?_;have:k=0\/k=1:=by have:newT.length=2:=rfl;omega
 rcases this with rfl | rfl
 ·obtain rfl:nodeTrue=n:=by simpa [newT] using hn
  unfold sortedN sortProg;rw [if_neg (by decide)];exact(by decide:(decide ((opProg 0 []).2=0) && decide ((opProg 0 []).1=0))=true)
 ·obtain rfl:nodeZero=n:=by simpa [newT] using hn
  unfold sortedN sortProg;rw [if_neg (by decide)];exact(by decide:(decide ((opProg 10 []).2=0) && decide ((opProg 10 []).1=1))=true)
theorem newT_table {g:Sig} (hg:checkE g=0):tableE g newT=0:=table_parts.2 ⟨hg,by decide,newT_sorted g⟩
theorem sorts_plain (g:Sig) (x:Sexp) :
  ((sortO g [] x).2≠0->termO g newT x 200=([],0,(sortO g [] x).2)) /\
  ((sortO g [] x).2=0->(termO g newT x 200).2.2≠0->(termO g newT x 200).2.2=10\/(termO g newT x 200).2.2=40\/fitsB g=false) /\
  ((sortO g [] x).2=0->(termO g newT x 200).2.2=0->tableE g (termO g newT x 200).1=0/\(termO g newT x 200).1.length<=200/\∃ (k:Nat) (n:Node),(termO g newT x 200).2.1=(k:Int)/\(termO g newT x 200).1[k]?=some n/\n.sort=(sortO g [] x).1):=by
 by_cases hg:checkE g=0
 ·have ht:=newT_table hg
  have hT:termO g newT x 200=if(sortO g [] x).2≠0 then([],0,(sortO g [] x).2) else if(makeP g 200 x newT).2.e≠0 then([],0,(makeP g 200 x newT).2.e) else((makeP g 200 x newT).2.t,(makeP g 200 x newT).1.2,0):=by
   unfold termO;rw [if_neg (fun h=>h ht)]
  rw [hT]
  by_cases hs:(sortO g [] x).2=0
  ·rw [if_neg (fun h=>h hs)];refine⟨fun h=>absurd hs h,?_⟩;have hs2:=hs;have hcond:¬ (checkE g≠0\/x.may=false):=fun hc=>by unfold sortO at hs2;rw [if_pos hc] at hs2;exact absurd hs2 (by decide)
   have hmay:x.may=true:=by
    cases hm:x.may with
    | true=>rfl
    | false=>exact absurd (Or.inr hm) hcond
   have hst:x.stands=true:=by unfold Sexp.may at hmay;rw [Bool.and_eq_true] at hmay;exact hmay.2
   have hse:(sortP g [] x).2.e=0/\(sortO g [] x).1=(sortP g [] x).1.1:=by
    unfold sortO at hs2 ⊢;rw [if_neg hcond] at hs2 ⊢
    by_cases he:(sortP g [] x).2.e=0
    ·rw [if_pos he];exact⟨he,rfl⟩
    ·rw [if_neg he] at hs2;exact absurd hs2 he
   have hout:=term_sim (simSort g 200) (macro_bodies hg) _ g.macros.length g.macros.length x (Nat.lt_succ_self _) (.inl rfl) hst [] [] (st0 []) (st0 newT) ⟨rfl,rfl,ht,by decide⟩ trivial;rw [hse.2];unfold sortP at hse ⊢;unfold makeP;generalize termP ⟨g,0,false⟩ g.macros.length x [] (st0 [])=p at *;generalize termP ⟨g,200,true⟩ g.macros.length x [] (st0 newT)=q at *;rcases hout with⟨⟨a1,a2,a3,a4⟩,⟨b1,k,n,b2,b3,b4⟩,_⟩ | hB
   ·have a2':¬ q.2.e≠0:=fun h=>h a2;rw [if_neg a2'];have a4':q.2.t.length<=200:=Int.ofNat_le.1 a4;exact⟨fun _ h=>absurd rfl h,fun _ _=>⟨a3,a4',k,n,b2,b3,by rw [b4];exact b1.symm⟩⟩
   ·have hne:q.2.e≠0:=by
     rcases hB with⟨h1,h2⟩ | h | h | ⟨_,h⟩
     ·rw [← h2];exact h1
     ·rw [h];decide
     ·rw [h];decide
     ·exact h
    rw [if_pos hne];refine⟨fun _ _=>?_,fun _ h=>absurd h hne⟩;rcases hB with⟨h1,h2⟩ | h | h | ⟨h,_⟩
    ·exact absurd hse.1 h1
    ·exact .inl h
    ·exact .inr (.inl h)
    ·refine .inr (.inr ?_)
     cases hf:fitsB g with
     | false=>rfl
     | true=>exact absurd (fits_fit hf) h
  ·rw [if_pos hs];exact⟨fun _=>rfl,fun h=>absurd h hs,fun h=>absurd h hs⟩
 ·have hs:sortO g [] x=(0,2):=by unfold sortO;rw [if_pos (.inl hg)]
  have ht:tableE g newT=2:=by unfold tableE;rw [if_pos (.inl hg)]
  have hT:termO g newT x 200=([],0,2):=by unfold termO;rw [if_pos (by rw [ht];decide)]
  rw [hs,hT];exact⟨fun _=>rfl,fun h=>absurd h (by decide),fun h=>absurd h (by decide)⟩
end El
end Go.Proofs.YtpmdcckapddchaaGreatDoor
