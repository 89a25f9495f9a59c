import Derived.Test.YtpmdcckapddchaaGreatShort
import Derived.Test.YtpmdcckapddchaaGreatMu
import Derived.Test.YtpmdcckapddchaaGreatMg
/- merged by wip/merge.py from: ElSorts2 ElSorts3 ElSorts4 ElMac3 ElMac4 ElMac5 ElMac6 ElMac7 ElMac8 -/
/- Sorts alone against nodes made: a kind, an application. No program in sight. -/
namespace Go.Proofs.YtpmdcckapddchaaGreat.El
open Go.RowKit Go.Proofs.YtpmdcckapddchaaGreat.Dt Go.Proofs.YtpmdcckapddchaaGreat.Sg
theorem put_bound:∀ (l:List UInt8) (p:Int × Bool),0≤p.1∧p.1≤4611686018427387904→0≤(putAll p l).1∧(putAll p l).1≤4611686018427387904
 | [],p,h=>h
 | c :: r,p,h=>by
  refine put_bound r _ ?_;show 0≤(putN p ((c.toNat:Int) % 16)).1∧(putN p ((c.toNat:Int) % 16)).1≤_;unfold putN
  split
  ·exact h
  ·constructor
   ·have:0≤(c.toNat:Int) % 16:=by omega
    show 0≤p.1 * 10+_
    omega
   ·show p.1 * 10+_≤_
    omega
theorem parse_may (l:List UInt8):mayB (parseV l)=true∧mayB (-parseV l)=true:=by
 have h:=put_bound l (0,false) ⟨by decide,by decide⟩
 have hb:0≤parseV l∧parseV l≤4611686018427387904:=by
  unfold parseV
  split
  ·split
   ·exact⟨by decide,by decide⟩
   ·exact h
  ·exact⟨by decide,by decide⟩
 exact⟨mayB_iff.2 ⟨by omega,by omega⟩,mayB_iff.2 ⟨by omega,by omega⟩⟩
theorem may_neg {n:Int} (h:mayB n=true):mayB (-n)=true:=by
 have:=mayB_iff.1 h;exact mayB_iff.2 ⟨by omega,by omega⟩
theorem parse_err {l:List UInt8} (h:isNum l=true):parseE l=0∨parseE l=10:=by
 unfold parseE;rw [h,if_pos rfl]
 split
 ·exact .inr rfl
 ·exact .inl rfl
theorem numN_stands {x:Sexp} (hx:x.stands=true) {n e:Int} (h:numN x=some (n,e)):mayB n=true∧(e=0∨e=10):=by
 have one:∀ y:Sexp,y.stands=true→y.kind=1→isNum (Lx.bs y.text)=true:=by
  intro y hy hk;rw [Sexp.stands_eq,hk,if_neg (by decide),if_pos rfl,Bool.and_eq_true] at hy;have:=hy.2;unfold numB at this;rw [Bool.and_eq_true] at this;exact this.1
 unfold numN at h
 split at h
 ·rename_i hk
  simp only [Option.some.injEq,Prod.mk.injEq] at h;obtain ⟨rfl,rfl⟩:=h;exact⟨(parse_may _).1,parse_err (one x hx hk)⟩
 ·split at h
  ·split at h
   ·rename_i y hl
    split at h
    ·rename_i hk
     simp only [Option.some.injEq,Prod.mk.injEq] at h;obtain ⟨rfl,rfl⟩:=h;exact⟨(parse_may _).2,parse_err (one y (l_stands hx y (by rw [hl];simp)) hk)⟩
    ·cases h
   ·cases h
  ·cases h
theorem opS_facts {op:Int} {l:List Int} {s:Int} (h:opS op l=some s) (hl:∀ x ∈ l,0≤x∧x < 6):arityN op=some ((l.length:Int),(l.length:Int))∧op≠13∧l.length≤3∧0≤s∧s < 6:=by
 obtain ⟨h1,h2⟩:=opS_len h;unfold ruleK at h1;have ho:=of_decide_eq_true h1;have:op=0∨op=1∨op=2∨op=3∨op=4∨op=5∨op=6∨op=7∨op=8∨op=9∨op=10∨op=11∨op=12:=by omega
 have hs:s=0∨s=1∨s ∈ l:=by
  unfold opS at h
  repeat' split at h
  all_goals first
   | (cases h;done)
   | (simp only [Option.some.injEq] at h;subst h;first | exact .inl rfl | exact .inr (.inl rfl) | exact .inr (.inr (by simp)))
 have hs6:0≤s∧s < 6:=by
  rcases hs with rfl | rfl | hs
  ·decide
  ·decide
  ·exact hl s hs
 refine⟨?_,by omega,?_,hs6.1,hs6.2⟩
 ·rw [h2];rcases this with rfl | rfl | rfl | rfl | rfl | rfl | rfl | rfl | rfl | rfl | rfl | rfl | rfl <;> decide
 ·have h3:(ruleL op).1≤3:=by
   rcases this with rfl | rfl | rfl | rfl | rfl | rfl | rfl | rfl | rfl | rfl | rfl | rfl | rfl <;> decide
  omega
theorem nth_arg (l:List V) (i:Nat) (op len s fn n:Int) (hi:i < 3):Node.arg ⟨op,len,nthN l 0,nthN l 1,nthN l 2,s,fn,n⟩ i=nthN l i:=by
 have:i=0∨i=1∨i=2:=by omega
 rcases this with rfl | rfl | rfl <;> rfl
theorem nth_in {t:List Node} {l:List V} (h:∀ v ∈ l,ValIn t v) {i:Nat} (hi:i < l.length):∃ (v:V) (k:Nat) (x:Node),l[i]?=some v∧nthN l i=(k:Int)∧t[k]?=some x∧x.sort=v.1:=by
 have hg:=List.getElem?_eq_getElem hi;obtain ⟨k,x,h1,h2,h3⟩:=h l[i] (List.getElem_mem hi);exact⟨l[i],k,x,hg,by unfold nthN;rw [List.getD_eq_getElem?_getD,hg];exact h1,h2,h3⟩
theorem args_ok {t:List Node} {l:List V} (h:∀ v ∈ l,ValIn t v) (op s fn n:Int) {i:Nat} (hi:i < 3):argOkB ⟨op,(l.length:Int),nthN l 0,nthN l 1,nthN l 2,s,fn,n⟩ t.length i=true:=by
 unfold argOkB;rw [nth_arg l i _ _ _ _ _ hi]
 by_cases hl:i < l.length
 ·rw [if_pos (show(i:Int) < (l.length:Int) by omega)];obtain ⟨v,k,x,_,h1,h2,_⟩:=nth_in h hl;have:=(List.getElem?_eq_some_iff.1 h2).1;rw [h1];simp
  omega
 ·rw [if_neg (show ¬ (i:Int) < (l.length:Int) by omega)];have:nthN l i=0:=by unfold nthN;rw [List.getD_eq_getElem?_getD,List.getElem?_eq_none (by omega)];rfl
  rw [this]
  rfl
theorem sorts_ok {t:List Node} {l:List V} (h:∀ v ∈ l,ValIn t v) (h3:l.length≤3) (op s fn n:Int):sortsTo t ⟨op,(l.length:Int),nthN l 0,nthN l 1,nthN l 2,s,fn,n⟩ l.length=l.map Prod.fst:=by
 unfold sortsTo;refine List.ext_getElem? fun i=>?_;rw [List.getElem?_map,List.getElem?_map]
 by_cases hi:i < l.length
 ·obtain ⟨v,k,x,hv,h1,h2,h4⟩:=nth_in h hi;rw [hv,List.getElem?_range hi];simp only [Option.map_some];rw [nth_arg l i _ _ _ _ _ (by omega),h1,Int.toNat_natCast,List.getD_eq_getElem?_getD,h2];exact congrArg some h4
 ·rw [List.getElem?_eq_none (by simpa using hi),List.getElem?_eq_none (by omega)]
  rfl
theorem op_stands {t:List Node} {l:List V} {k n s:Int} (hc:checkT t=true) (h:∀ v ∈ l,ValIn t v) (ho:opS k (l.map Prod.fst)=some s) (hn:mayB n=true) (hk:n=0∨k=10∨k=11∨k=12) (g:Sig) :
  standsN ⟨k,l.length,nthN l 0,nthN l 1,nthN l 2,s,0,n⟩ t.length=true∧sortProg g t ⟨k,l.length,nthN l 0,nthN l 1,nthN l 2,s,0,n⟩=(s,0):=by
 have hl:∀ x ∈ l.map Prod.fst,0≤x∧x < 6:=by
  intro x hx;obtain ⟨v,hv,rfl⟩:=List.mem_map.1 hx;exact(h v hv).sorts hc
 obtain ⟨f1,f2,f3,f4,f5⟩:=opS_facts ho hl;rw [List.length_map] at f1 f3
 constructor
 ·unfold standsN;rw [show(Node.mk k l.length (nthN l 0) (nthN l 1) (nthN l 2) s 0 n).op=k from rfl,f1];simp only;rw [args_ok h k s 0 n (by decide),args_ok h k s 0 n (by decide),args_ok h k s 0 n (by decide)];simp only [Int.le_refl,and_self,decide_true,Bool.true_and,Bool.and_true];rw [decide_eq_true (show 0≤s∧s < 6 from⟨f4,f5⟩)];simp only [Bool.true_and];rcases hk with rfl | rfl | rfl | rfl
  ·split
   ·simp [hn]
   ·simp
  ·simpa using hn
  ·simpa using hn
  ·simpa using hn
 ·unfold sortProg;rw [if_neg f2];show opProg k (sortsTo t _ (Int.toNat (l.length:Int)))=_;rw [Int.toNat_natCast,sorts_ok h f3];exact opProg_some.1 s ho
theorem app_stands {g:Sig} {t:List Node} {l:List V} {f:Fun4} {k:Nat} (hg:checkE g=0) (h:∀ v ∈ l,ValIn t v) (hf:g.funs[k]?=some f) (hlen:(l.length:Int)=f.len) (hs:∀ i,i < l.length→(l.getD i v0).1=Fun4.arg f i) :
  standsN ⟨13,f.len,nthN l 0,nthN l 1,nthN l 2,f.res,k,0⟩ t.length=true∧sortProg g t ⟨13,f.len,nthN l 0,nthN l 1,nthN l 2,f.res,k,0⟩=(f.res,0):=by
 have hb:checkB g=true:=by
  unfold checkE at hg
  split at hg
  ·assumption
  ·cases hg
 unfold checkB at hb;simp only [Bool.and_eq_true,decide_eq_true_eq] at hb;obtain ⟨⟨⟨hs4,hf12⟩,_⟩,⟨_,hfs⟩,_⟩:=hb;have hkl:=(List.getElem?_eq_some_iff.1 hf).1;unfold allTo at hfs;rw [List.all_eq_true] at hfs;have hfo:=hfs k (List.mem_range.2 hkl);unfold funOk at hfo;rw [hf] at hfo;simp only [Bool.and_eq_true] at hfo;have hfb:=hfo.2;unfold funB thereB at hfb;simp only [Bool.and_eq_true,decide_eq_true_eq] at hfb;obtain ⟨⟨⟨⟨⟨h0,h3⟩,hr⟩,_⟩,_⟩,_⟩:=hfb;rw [← hlen]
 constructor
 ·unfold standsN;rw [show(Node.mk 13 l.length (nthN l 0) (nthN l 1) (nthN l 2) f.res k 0).op=13 from rfl,show arityN 13=some (0,3) from rfl];simp only;rw [args_ok h 13 f.res k 0 (by decide),args_ok h 13 f.res k 0 (by decide),args_ok h 13 f.res k 0 (by decide)];rw [decide_eq_true (show 0≤f.res∧f.res < 6 by omega),decide_eq_true (show(0:Int)≤l.length∧(l.length:Int)≤3 by omega),decide_eq_true (show(0:Int)≤k∧(k:Int) < 12 by omega)];simp
 ·unfold sortProg;rw [if_pos rfl];show appProg g k (sortsTo t _ (Int.toNat (l.length:Int)))=_;rw [Int.toNat_natCast,sorts_ok h (by omega)];unfold appProg;rw [if_neg (by omega),Int.toNat_natCast,hf];simp only;rw [List.length_map,if_neg (by simp [hlen]),if_pos];refine argsB_all fun i hi=>?_;rw [List.length_map] at hi;rw [← hs i hi,List.getD_eq_getElem?_getD,List.getD_eq_getElem?_getD,List.getElem?_map,List.getElem?_eq_getElem hi]
  rfl
theorem sorts_none:∀ (l:List V) (q:List Int) (st:St),st.e=0→sortsM l q st=st→∀ i,i < l.length→i < q.length→(l.getD i v0).1=q.getD i 0
 | [],_,_,_,_,i,hi,_=>by simp at hi
 | _ :: _,[],_,_,_,i,_,hq=>by simp at hq
 | v :: l,s :: q,st,h0,h,i,hi,hq=>by
  unfold sortsM at h
  by_cases hv:v.1=s
  ·rw [if_neg (by simp [hv])] at h
   cases i with
   | zero=>exact hv
   | succ i=>exact sorts_none l q st h0 h i (by simpa using hi) (by simpa using hq)
  ·exfalso
   rw [if_pos ⟨h0,hv⟩,sorts_stick l q _ (by show(33:Int)≠0;decide)] at h;have:=congrArg St.e h;simp [h0] at this
def FitAt (g:Sig) (k:Nat) (m:Macro):Prop:=(termP ⟨g,0,false⟩ k m.body (envOf m.params) (st0 [])).2.e=0∧(termP ⟨g,0,false⟩ k m.body (envOf m.params) (st0 [])).1.1=m.res
def Fit (g:Sig):Prop:=∀ k m,g.macros[k]?=some m→FitAt g k m
def SoS (g:Sig) (most:Int) (s1 s2:St):Prop:=s1.e=0∧s2.e=0∧tableE g s2.t=0∧(s2.t.length:Int)≤most
def SoB (g:Sig) (s1 s2:St):Prop:=(s1.e≠0∧s1.e=s2.e)∨s2.e=10∨s2.e=40∨(¬ Fit g∧s2.e≠0)
def SoR (t:List Node) (v w:V):Prop:=v.1=w.1∧ValIn t w
theorem pw_right {P:V→V→Prop} {Q:V→Prop} (h:∀ v w,P v w→Q w):∀ {l m:List V},Pw P l m→∀ w ∈ m,Q w
 | [],[],_,w,hw=>by cases hw
 | v :: l,u :: m,⟨a,b⟩,w,hw=>by
  rcases List.mem_cons.1 hw with rfl | hw
  ·exact h _ _ a
  ·exact pw_right h b w hw
 | [],_ :: _,h,_,_=>h.elim
 | _ :: _,[],h,_,_=>h.elim
section
variable {g:Sig} {most:Int}
theorem so_put {s1 s2:St} {n:Node} (hs:SoS g most s1 s2) (h1:standsN n s2.t.length=true) (h2:sortProg g s2.t n=(n.sort,0)) :
  OutP (SoS g most) (SoB g) SoR s2.t ((n.sort,0),s1) (putM ⟨g,most,true⟩ n s2):=by
 obtain ⟨e1,e2,ht,hl⟩:=hs;unfold putM;rw [if_neg (by simp [e2])];rcases put_ok ht hl h1 h2 with⟨u,k,hp,hpre,hk,hu,hul⟩ | hp
 ·rw [hp];simp only [if_true];exact .inl ⟨⟨e1,e2,hu,hul⟩,⟨rfl,k,n,rfl,hk,rfl⟩,hpre⟩
 ·rw [hp];simp only;rw [if_neg (by decide)];exact .inr (.inr (.inr (.inl rfl)))
theorem so_op {s1 s2:St} (k n:Int) {l1 l2:List V} (hs:SoS g most s1 s2) (hl:Pw (SoR s2.t) l1 l2) (hn:mayB n=true) (hk:n=0∨k=10∨k=11∨k=12) :
  OutP (SoS g most) (SoB g) SoR s2.t (opM ⟨g,0,false⟩ k n l1 s1) (opM ⟨g,most,true⟩ k n l2 s2):=by
 have hs':=hs;obtain ⟨e1,e2,ht,hle⟩:=hs;have hso:l1.map Prod.fst=l2.map Prod.fst:=hl.sorts fun _ _ h=>h.1;have hin:=pw_right (Q:=ValIn s2.t) (fun _ _ h=>h.2) hl;have q1:¬ s1.e≠0:=by simp [e1]
 have q2:¬ s2.e≠0:=by simp [e2]
 unfold opM;rw [if_neg q1,if_neg q2,hso]
 cases ho:opS k (l2.map Prod.fst) with
 | none=>exact .inr (.inl ⟨by show(33:Int)≠0;decide,rfl⟩)
 | some s =>
  have hp:=so_put hs' (op_stands (table_parts.1 ht).2.1 hin ho hn hk g).1 (op_stands (table_parts.1 ht).2.1 hin ho hn hk g).2
  have h1:putM ⟨g,0,false⟩ ⟨k,l1.length,nthN l1 0,nthN l1 1,nthN l1 2,s,0,0⟩ s1=((s,0),s1):=by
   unfold putM;rw [if_pos (.inr rfl)]
  show OutP (SoS g most) (SoB g) SoR s2.t (putM ⟨g,0,false⟩ ⟨k,l1.length,nthN l1 0,nthN l1 1,nthN l1 2,s,0,0⟩ s1) (putM ⟨g,most,true⟩ ⟨k,l2.length,nthN l2 0,nthN l2 1,nthN l2 2,s,0,n⟩ s2);rw [h1];exact hp
theorem so_number {s1 s2:St} {x:Sexp} (hs:SoS g most s1 s2) (hx:x.stands=true) (hn:isNumX x=true) :
  (SoS g most (numberM ⟨g,0,false⟩ x s1).2 (numberM ⟨g,most,true⟩ x s2).2∧(numberM ⟨g,most,true⟩ x s2).2.t=s2.t∧mayB (numberM ⟨g,0,false⟩ x s1).1=true)∨SoB g (numberM ⟨g,0,false⟩ x s1).2 (numberM ⟨g,most,true⟩ x s2).2:=by
 unfold isNumX at hn;unfold numberM
 cases hx2:numN x with
 | none=>rw [hx2] at hn;cases hn
 | some p =>
  obtain ⟨n,e⟩:=p;obtain ⟨hm,he⟩:=numN_stands hx hx2;simp only;rcases he with rfl | rfl
  ·left
   simp;exact⟨hs,hm⟩
  ·right
   have:failS 10 s2={ s2 with e:=10 }:=by unfold failS;rw [if_pos hs.2.1]
   simp [this];exact .inr (.inl rfl)
theorem sorts_two:∀ (l1 l2:List V) (q:List Int) (s1 s2:St),l1.map Prod.fst=l2.map Prod.fst→s1.e=0→s2.e=0 →
  (sortsM l1 q s1=s1∧sortsM l2 q s2=s2)∨((sortsM l1 q s1).e=33∧(sortsM l2 q s2).e=33)
 | [],[],_,_,_,_,_,_=>.inl ⟨by unfold sortsM;rfl,by unfold sortsM;rfl⟩
 | v :: l1,w :: l2,[],_,_,_,_,_=>.inl ⟨by unfold sortsM;rfl,by unfold sortsM;rfl⟩
 | v :: l1,w :: l2,s :: q,s1,s2,h,h1,h2=>by
  simp only [List.map_cons,List.cons.injEq] at h;unfold sortsM
  by_cases hv:w.1=s
  ·rw [if_neg (by simp [h.1,hv]),if_neg (by simp [hv])];exact sorts_two l1 l2 q s1 s2 h.2 h1 h2
  ·rw [if_pos ⟨h1,by rw [h.1];exact hv⟩,if_pos ⟨h2,hv⟩]
   right
   rw [sorts_stick l1 q _ (by show(33:Int)≠0;decide),sorts_stick l2 q _ (by show(33:Int)≠0;decide)];exact⟨rfl,rfl⟩
 | [],_ :: _,_,_,_,h,_,_=>by simp at h
 | _ :: _,[],_,_,_,h,_,_=>by simp at h
theorem env_params {t:List Node}:∀ (ps:List Param) (l:List V),l.length=ps.length→(∀ i,i < l.length→(l.getD i v0).1=(ps.map Param.sort).getD i 0)→(∀ v ∈ l,ValIn t v)→EnvP (SoR t) (ps.map fun p=>(p.name,(p.sort,(0:Int)))) ((ps.map Param.name).zip l)
 | [],[],_,_,_=>trivial
 | p :: ps,v :: l,hl,hs,hi=>by
  refine⟨rfl,⟨?_,hi v (by simp)⟩,env_params ps l (by simpa using hl) (fun i h=>?_) (fun w hw=>hi w (by simp [hw]))⟩
  ·have:=hs 0 (by simp);exact this.symm
  ·have:=hs (i+1) (by simpa using h);exact this
 | [],_ :: _,hl,_,_=>by simp at hl
 | _ :: _,[],hl,_,_=>by simp at hl
theorem so_mac {s1 s2:St} (k:Nat) (m:Macro) {l1 l2:List V} (hm:g.macros[k]?=some m) (hs:SoS g most s1 s2) (hl:Pw (SoR s2.t) l1 l2) (hlen:l2.length=m.params.length)
  (hr:∀ {u1 u2 e1 e2},SoS g most u1 u2→EnvP (SoR u2.t) e1 e2→OutP (SoS g most) (SoB g) SoR u2.t (termP ⟨g,0,false⟩ k m.body e1 u1) (termP ⟨g,most,true⟩ k m.body e2 u2)) :
  OutP (SoS g most) (SoB g) SoR s2.t (macroM ⟨g,0,false⟩ (termP ⟨g,0,false⟩) m k l1 s1) (macroM ⟨g,most,true⟩ (termP ⟨g,most,true⟩) m k l2 s2):=by
 obtain ⟨e1,e2,ht,hle⟩:=hs;have hso:l1.map Prod.fst=l2.map Prod.fst:=hl.sorts fun _ _ h=>h.1;have hin:=pw_right (Q:=ValIn s2.t) (fun _ _ h=>h.2) hl;unfold macroM;simp only;rw [if_pos (.inr trivial)];rcases sorts_two l1 l2 (m.params.map Param.sort) s1 s2 hso e1 e2 with⟨h1,h2⟩ | ⟨h1,h2⟩
 ·rw [h1,h2,if_neg (by simp [e2])]
  by_cases hc:300 < s2.calls+1
  ·rw [if_pos hc];exact .inr (.inr (.inr (.inl rfl)))
  rw [if_neg hc];have hsr:=sorts_none l2 (m.params.map Param.sort) s2 e2 h2;have hev:=env_params (t:=s2.t) m.params l2 hlen (fun i hi=>hsr i hi (by rw [List.length_map];omega)) hin;have hout:=hr (u1:=st0 []) (u2:={ s2 with calls:=s2.calls+1 }) (e1:=envOf m.params) (e2:=((m.params.map Param.name).zip l2).reverse) ⟨rfl,e2,ht,hle⟩ (EnvP.reverse hev);have hF:Fit g→(termP ⟨g,0,false⟩ k m.body (envOf m.params) (st0 [])).2.e=0∧(termP ⟨g,0,false⟩ k m.body (envOf m.params) (st0 [])).1.1=m.res:=fun h=>h k m hm;generalize termP ⟨g,0,false⟩ k m.body (envOf m.params) (st0 [])=p at *;generalize termP ⟨g,most,true⟩ k m.body ((m.params.map Param.name).zip l2).reverse { s2 with calls:=s2.calls+1 }=q at *;rcases hout with⟨⟨a1,a2,a3,a4⟩,⟨b1,b2⟩,b3⟩ | hB
  ·by_cases hq:q.1.1=m.res
   ·rw [if_neg (fun h=>h.2 hq)];exact .inl ⟨⟨e1,a2,a3,a4⟩,⟨hq.symm,b2⟩,b3⟩
   ·rw [if_pos ⟨a2,hq⟩];refine .inr (.inr (.inr (.inr ⟨fun hfit=>hq ?_,by show(33:Int)≠0;decide⟩)));rw [← b1];exact(hF hfit).2
  ·have hne:q.2.e≠0:=by
    rcases hB with⟨h1,h2⟩ | h | h | ⟨_,h⟩
    ·rw [← h2];exact h1
    ·rw [h];decide
    ·rw [h];decide
    ·exact h
   rw [if_neg (fun h=>hne h.1)];refine .inr ?_;rcases hB with⟨h1,h2⟩ | h | h | h
   ·exact .inr (.inr (.inr ⟨fun hfit=>h1 (hF hfit).1,hne⟩))
   ·exact .inr (.inl h)
   ·exact .inr (.inr (.inl h))
   ·exact .inr (.inr (.inr h))
 ·rw [if_pos (.inl (by rw [h2];decide))];exact .inr (.inl ⟨by show(sortsM l1 _ s1).e≠0;rw [h1];decide,by show(sortsM l1 _ s1).e=(sortsM l2 _ s2).e;rw [h1,h2]⟩)
end
def simSort (g:Sig) (most:Int):Sim ⟨g,0,false⟩ ⟨g,most,true⟩ where
 same:=rfl
 S:=SoS g most
 B:=SoB g
 R:=SoR
 N:=fun n=>mayB n=true
 ok:=fun h=>⟨h.1,h.2.1⟩
 bad:=fun h h1 h2=>by
  rcases h with⟨a,b⟩ | a | a | ⟨a,b⟩
  ·have e1:=h1 a;have e2:=h2 (by rw [← b];exact a);subst e1 e2;exact .inl ⟨a,b⟩
  ·have e2:=h2 (by rw [a];decide);subst e2;exact .inr (.inl a)
  ·have e2:=h2 (by rw [a];decide);subst e2;exact .inr (.inr (.inl a))
  ·have e2:=h2 b;subst e2;exact .inr (.inr (.inr ⟨a,b⟩))
 bad_ne:=fun h=>by
  rcases h with⟨a,b⟩ | a | a | ⟨a,b⟩
  ·exact .inl a
  ·right;rw [a];decide
  ·right;rw [a];decide
  ·exact .inr b
 mono:=fun h hp=>⟨h.1,h.2.more hp⟩
 sort:=fun h=>h.1
 zero:=by decide
 neg:=may_neg
 nought:=fun {s1 s2} h=>⟨rfl,by
  have h2:=(checkT_parts.1 (table_parts.1 h.2.2.1).2.1).1;refine⟨0,nodeTrue,rfl,?_,rfl⟩;have:(s2.t.take 2)[0]?=some nodeTrue:=by rw [h2];rfl
  rwa [List.getElem?_take_of_lt (by decide)] at this⟩
 op:=fun {s1 s2} k n {l1 l2} hs hl hn hk=>so_op k n hs hl hn hk
 diff:=fun {s1 s2} n {v1 v2 w1 w2} hs hv hw=>by
  unfold diffM;rw [if_neg (by simp)]
  by_cases hm:mayB n=true
  ·rw [if_neg (by simp [hm])];exact so_op 12 n (l1:=[v1,w1]) (l2:=[v2,w2]) hs ⟨hv,hw,trivial⟩ hm (.inr (.inr (.inr rfl)))
  ·rw [if_pos ⟨rfl,hs.2.1,by simpa using hm⟩];exact .inr (.inr (.inl rfl))
 number:=fun hs hx hn=>so_number hs hx hn
 fail:=fun {s1 s2} e hs he=>by
  have a:failS e s1={ s1 with e:=e }:=by unfold failS;rw [if_pos hs.1]
  have b:failS e s2={ s2 with e:=e }:=by unfold failS;rw [if_pos hs.2.1]
  rw [a,b];exact .inl ⟨he,rfl⟩
 app:=fun {s1 s2} k f {l1 l2} hf hs hl hlen hsm=>by
  have hin:=pw_right (Q:=ValIn s2.t) (fun _ _ h=>h.2) hl
  have h3:l2.length≤3:=by
   have hcg:=(table_parts.1 hs.2.2.1).1;unfold checkE at hcg
   split at hcg
   ·rename_i hb
    unfold checkB at hb;simp only [Bool.and_eq_true] at hb;have hfs:=hb.2.1.2;unfold allTo at hfs;rw [List.all_eq_true] at hfs;have hfo:=hfs k (List.mem_range.2 (List.getElem?_eq_some_iff.1 hf).1);unfold funOk at hfo;have hf':g.funs[k]?=some f:=hf;rw [hf'] at hfo;simp only [Bool.and_eq_true] at hfo;have hfb:=hfo.2;unfold funB at hfb;simp only [Bool.and_eq_true,decide_eq_true_eq] at hfb;have:=hfb.1.1.1.1
    omega
   ·cases hcg
  have ha:=app_stands (table_parts.1 hs.2.2.1).1 hin hf hlen (fun i hi=>by
   have:=sorts_none l2 [f.a0,f.a1,f.a2] s2 hs.2.1 hsm i hi (by simp;omega);rw [this];have hc:i=0∨i=1∨i=2:=by omega
   rcases hc with rfl | rfl | rfl <;> rfl)
  have hp:=so_put (n:=⟨13,f.len,nthN l2 0,nthN l2 1,nthN l2 2,f.res,k,0⟩) hs ha.1 ha.2;unfold appN
  have h1:putM ⟨g,0,false⟩ ⟨13,f.len,nthN l1 0,nthN l1 1,nthN l1 2,f.res,k,0⟩ s1=((f.res,0),s1):=by
   unfold putM;rw [if_pos (.inr rfl)]
  rw [h1];exact hp
 mac:=fun {s1 s2} k m {l1 l2} hm hs hl hlen hr=>so_mac k m hm hs hl hlen hr
end Go.Proofs.YtpmdcckapddchaaGreat.El
/- A term's sort is its node's, its table is well sorted; an error of sorts leaves nothing. No program in sight. -/
namespace Go.Proofs.YtpmdcckapddchaaGreat.El
open Go.RowKit Go.Proofs.YtpmdcckapddchaaGreat.Dt Go.Proofs.YtpmdcckapddchaaGreat.Sg
def fitsB (g:Sig):Bool:=(List.range g.macros.length).all fun i=>decide (checkE g=0) && decide (checkE (cutG g i)=0) && (match g.macros[i]? with
 | some m=>decide (fitsO (cutG g i) m=0)
 | none=>true)
theorem fits_zero {g:Sig} {m:Macro} (h:fitsO g m=0):(sortP g (envOf m.params) m.body).2.e=0∧(sortP g (envOf m.params) m.body).1.1=m.res:=by
 unfold fitsO at h;simp only at h
 have h2:(sortO g (envOf m.params) m.body).2=0∧(sortO g (envOf m.params) m.body).1=m.res:=by
  split at h
  ·cases h
  ·rename_i hn
   exact⟨h,Decidable.byContradiction fun e=>hn ⟨h,e⟩⟩
 unfold sortO at h2
 split at h2
 ·exact absurd h2.1 (by decide)
 ·split at h2
  ·rename_i he
   exact⟨he,h2.2⟩
  ·rename_i he
   exact absurd h2.1 he
theorem fits_fit {g:Sig} (h:fitsB g=true):Fit g:=by
 intro k m hm;have hk:=(List.getElem?_eq_some_iff.1 hm).1;unfold fitsB at h;rw [List.all_eq_true] at h;have h1:=h k (List.mem_range.2 hk);rw [hm] at h1;simp only [Bool.and_eq_true,decide_eq_true_eq] at h1;have h2:=fits_zero h1.2;unfold sortP at h2;rw [show(cutG g k).macros.length=k by show(g.macros.take k).length=k;rw [List.length_take];omega,term_cut g k 0 false _ k m.body (Nat.lt_succ_self _) (Nat.le_refl _)] at h2;exact h2
theorem macro_bodies {g:Sig} (hg:checkE g=0):∀ m ∈ g.macros,m.body.stands=true:=by
 intro m hm;unfold checkE at hg
 split at hg
 ·rename_i hb
  unfold checkB at hb;simp only [Bool.and_eq_true] at hb;have hms:=hb.2.2;unfold allTo at hms;rw [List.all_eq_true] at hms;obtain ⟨k,hk⟩:=List.getElem?_of_mem hm;have hmo:=hms k (List.mem_range.2 (List.getElem?_eq_some_iff.1 hk).1);unfold macOk at hmo;rw [hk] at hmo;simp only [Bool.and_eq_true] at hmo;have hmb:=hmo.2;unfold macroB at hmb;simp only [Bool.and_eq_true] at hmb;have:=hmb.1.2;unfold Sexp.may at this;rw [Bool.and_eq_true] at this;exact this.2
 ·cases hg
theorem newT_sorted (g:Sig):sortedB g newT=true:=by
 refine sortedB_all fun k n hk hn=>?_;have:k=0∨k=1:=by have:newT.length=2:=rfl;omega
 rcases this with rfl | rfl
 ·obtain rfl:nodeTrue=n:=by simpa [newT] using hn
  unfold sortedN sortProg;rw [if_neg (by decide)];exact(by decide:(decide ((opProg 0 []).2=0) && decide ((opProg 0 []).1=0))=true)
 ·obtain rfl:nodeZero=n:=by simpa [newT] using hn
  unfold sortedN sortProg;rw [if_neg (by decide)];exact(by decide:(decide ((opProg 10 []).2=0) && decide ((opProg 10 []).1=1))=true)
theorem newT_table {g:Sig} (hg:checkE g=0):tableE g newT=0:=table_parts.2 ⟨hg,by decide,newT_sorted g⟩
theorem env_same {t:List Node}:∀ e:Env,EnvP (MaR t) e e
 | []=>trivial
 | (_,_) :: e=>⟨rfl,rfl,env_same e⟩
theorem body_two {c:Cx} {k known:Nat} {d:Int} (hd:0≤d) (hM:∀ m ∈ c.g.macros,m.body.stands=true) (hk:k≤known) {x:Sexp} (hst:x.stands=true) (env:Env) (st:St) (he:st.e=0) :
  ((termP c known x env st).2.e=0∧termP c k x env (shiftC d st)=((termP c known x env st).1,shiftC d (termP c known x env st).2)) ∨
   (termP c k x env (shiftC d st)).2.e=40∨(termP c k x env (shiftC d st)).2.e=31∨((termP c k x env (shiftC d st)).2.e≠0∧(termP c k x env (shiftC d st)).2.e=(termP c known x env st).2.e):=by
 have h:=term_sim (simMac c d hd) hM _ k known x (Nat.lt_succ_self _) (.inr ⟨hk,fun s1 s2 t2 hs=>.inr (.inl (by
  obtain ⟨h0,rfl⟩:=hs;unfold failS;rw [if_pos (show(shiftC d s2).e=0 from h0)]))⟩) hst env env (shiftC d st) st ⟨he,rfl⟩ (env_same (t:=st.t) env)
 rcases h with⟨⟨h1,h2⟩,h3,_⟩ | h | h | h
 ·exact .inl ⟨h1,by rw [← h2,← (show _=_ from h3)]⟩
 ·exact .inr (.inl h)
 ·exact .inr (.inr (.inl h))
 ·exact .inr (.inr (.inr h))
theorem body_fit {g:Sig} {most:Int} {k:Nat} {m:Macro} (hg:checkE g=0) (hfit:Fit g) (hm:g.macros[k]?=some m) {env:Env} {st:St} (hs:st.e=0) (ht:tableE g st.t=0) (hl:(st.t.length:Int)≤most) (he:EnvP (SoR st.t) (envOf m.params) env) :
  ((termP ⟨g,most,true⟩ k m.body env st).2.e=0∧(termP ⟨g,most,true⟩ k m.body env st).1.1=m.res)∨(termP ⟨g,most,true⟩ k m.body env st).2.e=10∨(termP ⟨g,most,true⟩ k m.body env st).2.e=40:=by
 have hM:=macro_bodies hg;have h:=term_sim (simSort g most) hM _ k k m.body (Nat.lt_succ_self _) (.inl rfl) (hM m (List.mem_of_getElem? hm)) (envOf m.params) env (st0 []) st ⟨rfl,hs,ht,hl⟩ he;have hf:=hfit k m hm;rcases h with⟨⟨_,h2,_⟩,h3,_⟩ | ⟨h1,_⟩ | h | h | ⟨h,_⟩
 ·exact .inl ⟨h2,h3.1.symm.trans hf.2⟩
 ·exact absurd hf.1 h1
 ·exact .inr (.inl h)
 ·exact .inr (.inr h)
 ·exact absurd hfit h
theorem sorts_fit:∀ (l:List V) (q:List Int) (st:St),l.map Prod.fst=q→sortsM l q st=st
 | v :: l,s :: q,st,h=>by
  simp only [List.map_cons,List.cons.injEq] at h;unfold sortsM;rw [if_neg (fun hc=>hc.2 h.1)];exact sorts_fit l q st h.2
 | [],_,_,_=>by unfold sortsM;rfl
 | _ :: _,[],_,h=>by cases h
theorem mac_two {g:Sig} {most:Int} {k known:Nat} {m:Macro} (hg:checkE g=0) (hfit:Fit g) (hm:g.macros[k]?=some m) (hk:k≤known) (l:List V) (st:St)
  (hA:st.e=0→l.map Prod.fst=m.params.map Param.sort∧tableE g st.t=0∧(st.t.length:Int)≤most∧EnvP (SoR st.t) (envOf m.params) (((m.params.map Param.name).zip l).reverse)) :
  (macroM ⟨g,most,true⟩ (termP ⟨g,most,true⟩) m k l st).2.e=40 ∨
   ((macroM ⟨g,most,true⟩ (termP ⟨g,most,true⟩) m k l st).2.e=(termP ⟨g,most,true⟩ known m.body (((m.params.map Param.name).zip l).reverse) st).2.e ∧
    ((termP ⟨g,most,true⟩ known m.body (((m.params.map Param.name).zip l).reverse) st).2.e=0→(macroM ⟨g,most,true⟩ (termP ⟨g,most,true⟩) m k l st).1=(termP ⟨g,most,true⟩ known m.body (((m.params.map Param.name).zip l).reverse) st).1∧(macroM ⟨g,most,true⟩ (termP ⟨g,most,true⟩) m k l st).2.t=(termP ⟨g,most,true⟩ known m.body (((m.params.map Param.name).zip l).reverse) st).2.t)):=by
 by_cases h0:st.e=0
 ·obtain ⟨h1,h2,h3,h4⟩:=hA h0;unfold macroM;simp only;rw [sorts_fit l _ st h1,if_neg (show ¬ (st.e≠0∨true=false) from fun h=>h.elim (fun h=>h h0) (by decide))]
  by_cases hc:300 < st.calls+1
  ·rw [if_pos hc];exact .inl rfl
  ·rw [if_neg hc];have ht:=body_two (c:=⟨g,most,true⟩) (k:=k) (known:=known) (d:=1) (by decide) (macro_bodies hg) hk (macro_bodies hg m (List.mem_of_getElem? hm)) (((m.params.map Param.name).zip l).reverse) st h0;have hb:=body_fit (most:=most) hg hfit hm (st:=shiftC 1 st) h0 h2 h3 h4;have he:({ st with calls:=st.calls+1 }:St)=shiftC 1 st:=rfl;rw [he];generalize termP ⟨g,most,true⟩ k m.body (((m.params.map Param.name).zip l).reverse) (shiftC 1 st)=p at *;generalize termP ⟨g,most,true⟩ known m.body (((m.params.map Param.name).zip l).reverse) st=q at *
   rw [if_neg (show ¬ (p.2.e=0∧p.1.1≠m.res) from fun h=>by
    rcases hb with hb | hb | hb
    ·exact h.2 hb.2
    ·rw [h.1] at hb;exact absurd hb (by decide)
    ·rw [h.1] at hb;exact absurd hb (by decide))]
   rcases ht with⟨a1,rfl⟩ | a | a | a
   ·exact .inr ⟨rfl,fun _=>⟨rfl,rfl⟩⟩
   ·exact .inl a
   ·rcases hb with hb | hb | hb
    ·rw [hb.1] at a;exact absurd a (by decide)
    ·rw [hb] at a;exact absurd a (by decide)
    ·rw [hb] at a;exact absurd a (by decide)
   ·exact .inr ⟨a.2,fun h=>absurd (a.2.trans h) a.1⟩
 ·rw [macro_stick _ _ _ _ _ _ h0,term_stick _ _ _ _ _ h0];exact .inr ⟨rfl,fun h=>absurd h h0⟩
theorem arg_fit {g:Sig} {most:Int} {a:Sexp} {st:St} (hg:checkE g=0) (ha:(sortP g [] a).2.e=0) (sa:a.stands=true) (hs:st.e=0) (ht:tableE g st.t=0) (hl:(st.t.length:Int)≤most) (he:(termP ⟨g,most,true⟩ g.macros.length a [] st).2.e=0) :
  tableE g (termP ⟨g,most,true⟩ g.macros.length a [] st).2.t=0∧((termP ⟨g,most,true⟩ g.macros.length a [] st).2.t.length:Int)≤most∧st.t <+: (termP ⟨g,most,true⟩ g.macros.length a [] st).2.t∧SoR (termP ⟨g,most,true⟩ g.macros.length a [] st).2.t (sortP g [] a).1 (termP ⟨g,most,true⟩ g.macros.length a [] st).1:=by
 have h:=term_sim (simSort g most) (macro_bodies hg) _ g.macros.length g.macros.length a (Nat.lt_succ_self _) (.inl rfl) sa [] [] (st0 []) st ⟨rfl,hs,ht,hl⟩ trivial;unfold sortP at *;rcases h with⟨⟨_,_,h3,h4⟩,h5,h6⟩ | ⟨h1,_⟩ | h | h | ⟨_,h⟩
 ·exact⟨h3,h4,h6,h5⟩
 ·exact absurd ha h1
 ·exact absurd (h.symm.trans he) (by decide)
 ·exact absurd (h.symm.trans he) (by decide)
 ·exact absurd he h
theorem args_fit {g:Sig} {most:Int} {a b:Sexp} {st:St} (hg:checkE g=0) (ha:(sortP g [] a).2.e=0) (hb:(sortP g [] b).2.e=0) (sa:a.stands=true) (sb:b.stands=true) (hs:st.e=0) (ht:tableE g st.t=0) (hl:(st.t.length:Int)≤most)
  (he:(allM (fun x=>termP ⟨g,most,true⟩ g.macros.length x []) [a,b] st).2.e=0) :
  ∃ v w,(allM (fun x=>termP ⟨g,most,true⟩ g.macros.length x []) [a,b] st).1=[v,w]∧v.1=(sortP g [] a).1.1∧w.1=(sortP g [] b).1.1∧tableE g (allM (fun x=>termP ⟨g,most,true⟩ g.macros.length x []) [a,b] st).2.t=0 ∧
   ((allM (fun x=>termP ⟨g,most,true⟩ g.macros.length x []) [a,b] st).2.t.length:Int)≤most∧ValIn (allM (fun x=>termP ⟨g,most,true⟩ g.macros.length x []) [a,b] st).2.t v∧ValIn (allM (fun x=>termP ⟨g,most,true⟩ g.macros.length x []) [a,b] st).2.t w:=by
 simp only [allM] at *
 have he1:(termP ⟨g,most,true⟩ g.macros.length a [] st).2.e=0:=Decidable.byContradiction fun h=>by
  rw [term_stick _ _ _ _ _ h] at he;exact h he
 obtain ⟨t1,l1,p1,r1⟩:=arg_fit hg ha sa hs ht hl he1;obtain ⟨t2,l2,p2,r2⟩:=arg_fit hg hb sb he1 t1 l1 he;exact⟨_,_,rfl,r1.1.symm,r2.1.symm,t2,l2,r1.2.more p2,r2.2⟩
theorem mac_make {g:Sig} {most:Int} {k:Nat} {m:Macro} {p0 p1:Param} {a b:Sexp} {st:St} (hg:checkE g=0) (hfit:Fit g) (hm:g.macros[k]?=some m) (hp:m.params=[p0,p1])
  (hf:hasB (g.funs.map Fun4.name) sMac=false) (hh:hasB (g.macros.map Macro.name) sMac=true) (hk:findAt (g.macros.map Macro.name) sMac=k)
  (n0:Lx.resB (Lx.bs p0.name)=false) (n1:Lx.resB (Lx.bs p1.name)=false) (n2:hasB [p0.name] p1.name=false)
  (ha:(sortP g [] a).2.e=0) (hb:(sortP g [] b).2.e=0) (qa:(sortP g [] a).1.1=p0.sort) (qb:(sortP g [] b).1.1=p1.sort) (sa:a.stands=true) (sb:b.stands=true) (hs:st.e=0) (ht:tableE g st.t=0) (hl:(st.t.length:Int)≤most) :
  (termP ⟨g,most,true⟩ g.macros.length (callX a b) [] st).2.e=40 ∨
   ((termP ⟨g,most,true⟩ g.macros.length (callX a b) [] st).2.e=(termP ⟨g,most,true⟩ g.macros.length (let2X p0.name p1.name a b m.body) [] st).2.e ∧
    ((termP ⟨g,most,true⟩ g.macros.length (let2X p0.name p1.name a b m.body) [] st).2.e=0→(termP ⟨g,most,true⟩ g.macros.length (callX a b) [] st).1=(termP ⟨g,most,true⟩ g.macros.length (let2X p0.name p1.name a b m.body) [] st).1∧(termP ⟨g,most,true⟩ g.macros.length (callX a b) [] st).2.t=(termP ⟨g,most,true⟩ g.macros.length (let2X p0.name p1.name a b m.body) [] st).2.t)):=by
 have hkl:k < g.macros.length:=(List.getElem?_eq_some_iff.1 hm).1;rw [call_step (c:=⟨g,most,true⟩) a b st hs hf hh hk hkl hm (by rw [hp];rfl),let2_step (c:=⟨g,most,true⟩) a b m.body st hs n0 n1 n2];have hA:=args_fit (most:=most) hg ha hb sa sb hs ht hl;generalize allM (fun x=>termP ⟨g,most,true⟩ g.macros.length x []) [a,b] st=A at *;have hn:m.params.map Param.name=[p0.name,p1.name]:=by rw [hp];rfl
 rw [← hn];refine mac_two hg hfit hm (Nat.le_of_lt hkl) A.1 A.2 fun h0=>?_;obtain ⟨v,w,e1,e2,e3,e4,e5,e6,e7⟩:=hA h0;rw [e1];refine⟨by rw [hp];simp [e2,e3,qa,qb],e4,e5,?_⟩;unfold envOf;refine EnvP.reverse (env_params m.params [v,w] (by rw [hp];rfl) (fun i hi=>?_) (fun u hu=>?_))
 ·rw [hp];have:i=0∨i=1:=by have:i < 2:=hi;omega
  rcases this with rfl | rfl
  ·exact e2.trans qa
  ·exact e3.trans qb
 ·simp only [List.mem_cons,List.not_mem_nil,or_false] at hu;rcases hu with rfl | rfl
  ·exact e6
  ·exact e7
def FrS (s1 s2:St):Prop:=s1.e=0∧s2.e=0
def FrB (s1 s2:St):Prop:=s1.e=31∨(s1.e≠0∧s1.e=s2.e)
def FrR (_:List Node) (v w:V):Prop:=v.1=w.1
theorem fr_sorts {t:List Node}:∀ {l m:List V},Pw (FrR t) l m→l.map Prod.fst=m.map Prod.fst:=fun h=>Pw.sorts (fun _ _ h=>h) h
theorem put_free (c:Cx) (hc:c.build=false) (n:Node) (st:St):putM c n st=((n.sort,0),st):=by
 unfold putM;rw [if_pos (.inr hc)]
theorem fr_op {c:Cx} (hc:c.build=false) {s1 s2:St} (k n:Int) {l1 l2:List V} (hs:FrS s1 s2) (hl:Pw (FrR s2.t) l1 l2):OutP FrS FrB FrR s2.t (opM c k n l1 s1) (opM c k n l2 s2):=by
 unfold opM;rw [if_neg (show ¬ s1.e≠0 from fun h=>h hs.1),if_neg (show ¬ s2.e≠0 from fun h=>h hs.2),fr_sorts hl]
 cases opS k (l2.map Prod.fst) with
 | none=>exact .inr (.inr ⟨by show(33:Int)≠0;decide,rfl⟩)
 | some s =>
  simp only [put_free c hc];exact .inl ⟨hs,rfl,List.prefix_refl _⟩
theorem sorts_same:∀ (l1 l2:List V) (q:List Int) (s1 s2:St),l1.map Prod.fst=l2.map Prod.fst→s1.e=s2.e→(sortsM l1 q s1).e=(sortsM l2 q s2).e
 | v :: l1,w :: l2,s :: q,s1,s2,h,he=>by
  simp only [List.map_cons,List.cons.injEq] at h;unfold sortsM;rw [h.1,he]
  by_cases hc:s2.e=0∧w.1≠s
  ·rw [if_pos hc,if_pos hc];exact sorts_same l1 l2 q _ _ h.2 rfl
  ·rw [if_neg hc,if_neg hc];exact sorts_same l1 l2 q _ _ h.2 he
 | [],[],_,_,_,_,he=>by unfold sortsM;exact he
 | _ :: _,_ :: _,[],_,_,_,he=>by unfold sortsM;exact he
 | [],_ :: _,_,_,_,h,_=>by cases h
 | _ :: _,[],_,_,_,h,_=>by cases h
def simFree (c:Cx) (hc:c.build=false):Sim c c where
 same:=rfl
 S:=FrS
 B:=FrB
 R:=FrR
 N:=fun _=>True
 ok:=fun h=>h
 bad:=fun h h1 h2=>by
  rcases h with a | ⟨a,b⟩
  ·have e1:=h1 (by rw [a];decide);subst e1;exact .inl a
  ·have e1:=h1 a;have e2:=h2 (by rw [← b];exact a);subst e1 e2;exact .inr ⟨a,b⟩
 bad_ne:=fun h=>by
  rcases h with a | ⟨a,_⟩
  ·left;rw [a];decide
  ·exact .inl a
 mono:=fun h _=>h
 sort:=fun h=>h
 zero:=trivial
 neg:=fun _=>trivial
 nought:=fun _=>rfl
 op:=fun {s1 s2} k n {l1 l2} hs hl _ _=>fr_op hc k n hs hl
 diff:=fun {s1 s2} n {v1 v2 w1 w2} hs hv hw=>by
  unfold diffM;rw [if_neg (fun h=>by rw [hc] at h;exact absurd h.1 (by decide)),if_neg (fun h=>by rw [hc] at h;exact absurd h.1 (by decide))];exact fr_op hc 12 n (l1:=[v1,w1]) (l2:=[v2,w2]) hs ⟨hv,hw,trivial⟩
 number:=fun {s1 s2} {x} hs _ _=>by
  have h:∀ st,(numberM c x st).2=st:=fun st=>by
   unfold numberM
   cases numN x with
   | none=>rfl
   | some p=>show(if p.2≠0∧c.build=true then failS p.2 st else st)=st;rw [if_neg (fun h=>by rw [hc] at h;exact absurd h.2 (by decide))]
  exact .inl ⟨by rw [h,h];exact hs,by rw [h],trivial⟩
 fail:=fun {s1 s2} e hs he=>by
  unfold failS;rw [if_pos hs.1,if_pos hs.2];exact .inr ⟨he,rfl⟩
 app:=fun {s1 s2} k f {l1 l2} _ hs hl _ _=>by
  unfold appN;rw [put_free c hc,put_free c hc];exact .inl ⟨hs,rfl,List.prefix_refl _⟩
 mac:=fun {s1 s2} k m {l1 l2} _ hs hl _ _=>by
  have he:=sorts_same l1 l2 (m.params.map Param.sort) s1 s2 (fr_sorts hl) (hs.1.trans hs.2.symm);have hk:=sorts_keep l2 (m.params.map Param.sort) s2;unfold macroM;simp only;rw [if_pos (.inr hc),if_pos (.inr hc)]
  by_cases h:(sortsM l2 (m.params.map Param.sort) s2).e=0
  ·exact .inl ⟨⟨he.trans h,h⟩,rfl,by show s2.t <+: (sortsM l2 _ s2).t;rw [hk];exact List.prefix_refl _⟩
  ·exact .inr (.inr ⟨by show(sortsM l1 _ s1).e≠0;rw [he];exact h,he⟩)
theorem free_run {g:Sig} {x:Sexp} (hg:checkE g=0) (sx:x.stands=true) (hx:(sortP g [] x).2.e=0) (st:St) (hs:st.e=0) :
  (termP ⟨g,0,false⟩ g.macros.length x [] st).2.e=0∧(termP ⟨g,0,false⟩ g.macros.length x [] st).1.1=(sortP g [] x).1.1:=by
 have h:=term_sim (simFree ⟨g,0,false⟩ rfl) (macro_bodies hg) _ g.macros.length g.macros.length x (Nat.lt_succ_self _) (.inl rfl) sx [] [] (st0 []) st ⟨rfl,hs⟩ trivial;unfold sortP at *;rcases h with⟨⟨_,h2⟩,h3,_⟩ | h | h
 ·exact⟨h2,(show _=_ from h3).symm⟩
 ·exact absurd (h.symm.trans hx) (by decide)
 ·exact absurd hx h.1
theorem free_args {g:Sig} {a b:Sexp} (hg:checkE g=0) (ha:(sortP g [] a).2.e=0) (hb:(sortP g [] b).2.e=0) (sa:a.stands=true) (sb:b.stands=true) (st:St) (hs:st.e=0) :
  ∃ v w,(allM (fun x=>termP ⟨g,0,false⟩ g.macros.length x []) [a,b] st).1=[v,w]∧v.1=(sortP g [] a).1.1∧w.1=(sortP g [] b).1.1∧(allM (fun x=>termP ⟨g,0,false⟩ g.macros.length x []) [a,b] st).2.e=0:=by
 simp only [allM];have h1:=free_run hg sa ha st hs;have h2:=free_run hg sb hb _ h1.1;exact⟨_,_,rfl,h1.2,h2.2,h2.1⟩
theorem mac_sort {g:Sig} {k:Nat} {m:Macro} {p0 p1:Param} {a b:Sexp} (hg:checkE g=0) (hfit:Fit g) (hm:g.macros[k]?=some m) (hp:m.params=[p0,p1])
  (hf:hasB (g.funs.map Fun4.name) sMac=false) (hh:hasB (g.macros.map Macro.name) sMac=true) (hk:findAt (g.macros.map Macro.name) sMac=k)
  (n0:Lx.resB (Lx.bs p0.name)=false) (n1:Lx.resB (Lx.bs p1.name)=false) (n2:hasB [p0.name] p1.name=false)
  (ha:(sortP g [] a).2.e=0) (hb:(sortP g [] b).2.e=0) (qa:(sortP g [] a).1.1=p0.sort) (qb:(sortP g [] b).1.1=p1.sort) (sa:a.stands=true) (sb:b.stands=true) :
  (sortP g [] (callX a b)).2.e=0∧(sortP g [] (let2X p0.name p1.name a b m.body)).2.e=0:=by
 have hkl:k < g.macros.length:=(List.getElem?_eq_some_iff.1 hm).1;obtain ⟨v,w,e1,e2,e3,e4⟩:=free_args hg ha hb sa sb (st0 []) rfl
 constructor
 ·unfold sortP;rw [call_step (c:=⟨g,0,false⟩) a b (st0 []) rfl hf hh hk hkl hm (by rw [hp];rfl),e1];unfold macroM;simp only;rw [if_pos (.inr trivial)];show(sortsM [v,w] (m.params.map Param.sort) _).e=0;rw [sorts_fit [v,w] _ _ (by rw [hp];simp [e2,e3,qa,qb])];exact e4
 ·unfold sortP;rw [let2_step (c:=⟨g,0,false⟩) a b m.body (st0 []) rfl n0 n1 n2,e1];generalize (allM (fun x=>termP ⟨g,0,false⟩ g.macros.length x []) [a,b] (st0 [])).2=u at *
  have h:=term_sim (simFree ⟨g,0,false⟩ rfl) (macro_bodies hg) _ k g.macros.length m.body (Nat.lt_succ_self _) (.inr ⟨Nat.le_of_lt hkl,fun s1 s2 t2 hs=>.inl (by unfold failS;rw [if_pos hs.1])⟩) (macro_bodies hg m (List.mem_of_getElem? hm)) (envOf m.params) (([p0.name,p1.name].zip [v,w]).reverse) (st0 []) u ⟨rfl,e4⟩
   (by unfold envOf;rw [hp];exact EnvP.reverse ⟨rfl,(e2.trans qa).symm,rfl,(e3.trans qb).symm,trivial⟩)
  have hfa:=hfit k m hm;rcases h with⟨⟨_,h2⟩,_⟩ | h | h
  ·exact h2
  ·exact absurd (h.symm.trans hfa.1) (by decide)
  ·exact absurd hfa.1 h.1
theorem sort_zero {g:Sig} {x:Sexp} (h:(sortO g [] x).2=0):x.stands=true∧(sortP g [] x).2.e=0∧(sortP g [] x).1.1=(sortO g [] x).1:=by
 unfold sortO at *
 split at h
 ·exact absurd h (by decide)
 ·rename_i hc
  rw [if_neg hc]
  have hmay:x.may=true:=by
   cases hm:x.may with
   | true=>rfl
   | false=>exact absurd (Or.inr hm) hc
  have hst:x.stands=true:=by unfold Sexp.may at hmay;rw [Bool.and_eq_true] at hmay;exact hmay.2
  split at h
  ·rename_i he;rw [if_pos he];exact⟨hst,he,rfl⟩
  ·rename_i he;exact absurd h he
theorem sort_of {g:Sig} {x:Sexp} (hg:checkE g=0) (hm:x.may=true) (h:(sortP g [] x).2.e=0):(sortO g [] x).2=0:=by
 unfold sortO;rw [if_neg (fun hc=>hc.elim (fun h=>h hg) (fun h=>by rw [hm] at h;cases h)),if_pos h]
theorem term_of {g:Sig} {x:Sexp} (hg:checkE g=0) (h:(sortO g [] x).2=0):termO g newT x 200=if(termP ⟨g,200,true⟩ g.macros.length x [] (st0 newT)).2.e≠0 then([],0,(termP ⟨g,200,true⟩ g.macros.length x [] (st0 newT)).2.e) else((termP ⟨g,200,true⟩ g.macros.length x [] (st0 newT)).2.t,(termP ⟨g,200,true⟩ g.macros.length x [] (st0 newT)).1.2,0):=by
 unfold termO makeP;rw [if_neg (show ¬ tableE g newT≠0 from fun h=>h (newT_table hg)),if_neg (show ¬ (sortO g [] x).2≠0 from fun h'=>h' h)]
theorem macros_plain {g:Sig} {k:Nat} {m:Macro} {p0 p1:Param} {a b:Sexp} (hg:checkE g=0) (hfit:Fit g) (hm:g.macros[k]?=some m) (hp:m.params=[p0,p1])
  (hf:hasB (g.funs.map Fun4.name) sMac=false) (hh:hasB (g.macros.map Macro.name) sMac=true) (hk:findAt (g.macros.map Macro.name) sMac=k)
  (n0:Lx.resB (Lx.bs p0.name)=false) (n1:Lx.resB (Lx.bs p1.name)=false) (n2:hasB [p0.name] p1.name=false)
  (ha:(sortO g [] a).2=0) (hb:(sortO g [] b).2=0) (qa:(sortO g [] a).1=p0.sort) (qb:(sortO g [] b).1=p1.sort)
  (mc:(callX a b).may=true) (ml:(let2X p0.name p1.name a b m.body).may=true) :
  ((termO g newT (callX a b) 200).2.2=40∧(termO g newT (let2X p0.name p1.name a b m.body) 200).2.2≠40)∨termO g newT (callX a b) 200=termO g newT (let2X p0.name p1.name a b m.body) 200:=by
 obtain ⟨sa,ea,ra⟩:=sort_zero ha;obtain ⟨sb,eb,rb⟩:=sort_zero hb;have hs:=mac_sort hg hfit hm hp hf hh hk n0 n1 n2 ea eb (ra.trans qa) (rb.trans qb) sa sb;have hM:=mac_make (most:=200) (st:=st0 newT) hg hfit hm hp hf hh hk n0 n1 n2 ea eb (ra.trans qa) (rb.trans qb) sa sb rfl (newT_table hg) (by decide);have s1:=sort_of hg mc hs.1;have s2:=sort_of hg ml hs.2;rw [term_of hg s1,term_of hg s2];generalize termP ⟨g,200,true⟩ g.macros.length (callX a b) [] (st0 newT)=p at *;generalize termP ⟨g,200,true⟩ g.macros.length (let2X p0.name p1.name a b m.body) [] (st0 newT)=q at *;rcases hM with h | ⟨h1,h2⟩
 ·by_cases hq:q.2.e=40
  ·right
   rw [if_pos (show p.2.e≠0 by rw [h];decide),if_pos (show q.2.e≠0 by rw [hq];decide),h,hq]
  ·left
   rw [if_pos (show p.2.e≠0 by rw [h];decide)];refine⟨h,?_⟩
   split
   ·exact hq
   ·show(0:Int)≠40;decide
 ·right
  by_cases hq:q.2.e=0
  ·rw [if_neg (show ¬ p.2.e≠0 from fun h=>h (h1.trans hq)),if_neg (show ¬ q.2.e≠0 from fun h=>h hq),(h2 hq).1,(h2 hq).2]
  ·rw [if_pos (show p.2.e≠0 by rw [h1];exact hq),if_pos hq,h1]
end Go.Proofs.YtpmdcckapddchaaGreat.El
