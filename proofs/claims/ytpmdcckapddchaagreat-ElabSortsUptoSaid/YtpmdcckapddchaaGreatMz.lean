import Derived.Test.YtpmdcckapddchaaGreatShort
import Derived.Test.YtpmdcckapddchaaGreatMg
import Derived.Test.YtpmdcckapddchaaGreatMt
import Derived.Test.YtpmdcckapddchaaGreatMd
import Derived.Test.YtpmdcckapddchaaGreatMi
import Derived.Test.YtpmdcckapddchaaGreatMh
import Derived.Test.YtpmdcckapddchaaGreatMb
/- merged by wip/merge.py from: ElTop ElSorts ElSorts2 ElSorts3 ElSorts4 ElWake Law7List -/
/- Sort and Term in plain words; a let of a name that stands for a term. No program in sight. -/
namespace Go.Proofs.YtpmdcckapddchaaGreat.El
open Go.RowKit Go.Proofs.YtpmdcckapddchaaGreat.Dt Go.Proofs.YtpmdcckapddchaaGreat.Sg
def st0 (t:List Node):St:=⟨t,0,0⟩
def sortP (g:Sig) (env:Env) (x:Sexp):V × St:=termP ⟨g,0,false⟩ g.macros.length x env (st0 [])
def sortO (g:Sig) (env:Env) (x:Sexp):Int × Int :=
 if checkE g≠0∨x.may=false then(0,2)
 else if(sortP g env x).2.e=0 then((sortP g env x).1.1,0) else(0,(sortP g env x).2.e)
def envOf (vars:List Param):Env:=(vars.map fun p=>(p.name,(p.sort,(0:Int)))).reverse
def fitsO (g:Sig) (m:Macro):Int :=
 let s:=sortO g (envOf m.params) m.body
 if s.2=0∧s.1≠m.res then 33 else s.2
def makeP (g:Sig) (most:Int) (x:Sexp) (t:List Node):V × St:=termP ⟨g,most,true⟩ g.macros.length x [] (st0 t)
def termO (g:Sig) (t:List Node) (x:Sexp) (most:Int):List Node × Int × Int :=
 if tableE g t≠0 then([],0,2)
 else if(sortO g [] x).2≠0 then([],0,(sortO g [] x).2)
 else if(makeP g most x t).2.e≠0 then([],0,(makeP g most x t).2.e)
 else((makeP g most x t).2.t,(makeP g most x t).1.2,0)
def symX (s:ByteArray):Sexp:=.mk 0 s []
theorem table_parts {g:Sig} {t:List Node}:tableE g t=0 ↔ checkE g=0∧checkT t=true∧sortedB g t=true:=by
 unfold tableE checkTE
 by_cases h1:checkE g=0
 ·cases h2:checkT t with
  | true=>cases h3:sortedB g t <;> simp [h1]
  | false=>simp [h1]
 ·simp [h1]
theorem checkT_parts {t:List Node}:checkT t=true ↔ t.take 2=newT∧standsTo t t.length=true∧t.Nodup:=by
 unfold checkT;simp [Bool.and_eq_true,and_assoc]
theorem standsTo_at {t:List Node} {k:Nat} (h:standsTo t t.length=true) {n:Node} (hn:t[k]?=some n):standsN n k=true:=by
 unfold standsTo at h;rw [List.all_eq_true] at h;have:=h k (List.mem_range.2 (List.getElem?_eq_some_iff.1 hn).1)
 rwa [hn] at this
theorem check_push {t:List Node} {n:Node} (h:checkT t=true) (hs:standsN n t.length=true) (hn:n ∉ t):checkT (t ++ [n])=true:=by
 obtain ⟨h1,h2,h3⟩:=checkT_parts.1 h;have hl:2≤t.length:=by have:=congrArg List.length h1;rw [List.length_take] at this;simp [newT] at this;omega
 refine checkT_parts.2 ⟨by rw [List.take_append_of_le_length hl];exact h1,?_,?_⟩
 ·unfold standsTo;rw [List.all_eq_true];intro k hk;have hk:=List.mem_range.1 hk;rw [List.length_append,List.length_singleton] at hk
  by_cases hkl:k < t.length
  ·rw [List.getElem?_append_left hkl];have:=standsTo_at h2 (List.getElem?_eq_getElem hkl);rw [List.getElem?_eq_getElem hkl];exact this
  ·obtain rfl:k=t.length:=by omega
   rw [List.getElem?_append_right (Nat.le_refl _)];simp [hs]
 ·rw [List.nodup_append]
  exact ⟨h3, by simp, fun a ha b hb => by obtain rfl : b = n := by simpa using hb
                                          intro e;subst e;exact hn ha⟩
theorem sortProg_more {g:Sig} {t u:List Node} {n:Node} {k:Nat} (hs:standsN n k=true) (hk:k≤t.length) (hu:t <+: u):sortProg g u n=sortProg g t n:=by
 obtain ⟨r,rfl⟩:=hu
 have h:sortsTo (t ++ r) n n.len.toNat=sortsTo t n n.len.toNat:=by
  unfold sortsTo;refine List.map_congr_left fun i hi=>?_;have hi:=List.mem_range.1 hi;have hl:=stands_len hs;have ha:=stands_arg hs (i:=i) (by omega);rw [List.getD_eq_getElem?_getD,List.getD_eq_getElem?_getD,List.getElem?_append_left (by omega)]
 unfold sortProg;rw [h]
theorem table_push {g:Sig} {t:List Node} {n:Node} (h:tableE g t=0) (hs:standsN n t.length=true) (hn:n ∉ t) (hp:sortProg g t n=(n.sort,0)):tableE g (t ++ [n])=0:=by
 obtain ⟨h1,h2,h3⟩:=table_parts.1 h;refine table_parts.2 ⟨h1,check_push h2 hs hn,sortedB_all fun k m hk hm=>?_⟩;unfold sortedN
 by_cases hkl:k < t.length
 ·rw [List.getElem?_append_left hkl] at hm;have hst:=standsTo_at (checkT_parts.1 h2).2.1 hm;rw [sortProg_more hst (by omega) (List.prefix_append _ _)];unfold sortedB at h3;rw [List.all_eq_true] at h3;exact h3 m (List.mem_of_getElem? hm)
 ·rw [List.getElem?_append_right (by omega)] at hm
  have hk0:k - t.length=0:=by
   have:=(List.getElem?_eq_some_iff.1 hm).1;simp at this
   omega
  rw [hk0] at hm;obtain rfl:n=m:=by simpa using hm
  rw [sortProg_more hs (Nat.le_refl _) (List.prefix_append _ _),hp];simp
theorem put_ok {g:Sig} {most:Int} {t:List Node} {n:Node} (h:tableE g t=0) (hl:(t.length:Int)≤most) (hs:standsN n t.length=true) (hp:sortProg g t n=(n.sort,0)) :
  (∃ (u:List Node) (k:Nat),putT t n most=(u,(k:Int),0)∧t <+: u∧u[k]?=some n∧tableE g u=0∧(u.length:Int)≤most)∨putT t n most=([],0,40):=by
 obtain ⟨h1,h2,h3⟩:=table_parts.1 h;unfold putT;rw [h2,hs];simp only [Bool.and_self,if_true]
 by_cases hm:n ∈ t
 ·rw [if_pos hm];refine .inl ⟨t,_,rfl,List.prefix_refl _,?_,h,hl⟩;have hx:∃ x ∈ t,decide (x=n)=true:=⟨n,hm,by simp⟩;have hlt:=List.findIdx_lt_length_of_exists hx;have:=List.findIdx_getElem (p:=fun x=>decide (x=n)) (xs:=t) (w:=hlt);rw [List.getElem?_eq_getElem hlt,of_decide_eq_true this]
 ·rw [if_neg hm]
  by_cases hf:most≤t.length
  ·rw [if_pos hf];exact .inr rfl
  ·rw [if_neg hf];refine .inl ⟨t ++ [n],t.length,rfl,List.prefix_append _ _,by simp,table_push h hs hm hp,?_⟩;rw [List.length_append,List.length_singleton]
   omega
def ValIn (t:List Node) (v:V):Prop:=∃ (k:Nat) (x:Node),v.2=(k:Int)∧t[k]?=some x∧x.sort=v.1
theorem ValIn.more {t u:List Node} {v:V} (h:ValIn t v) (hu:t <+: u):ValIn u v:=by
 obtain ⟨k,x,h1,h2,h3⟩:=h;obtain ⟨r,rfl⟩:=hu;exact⟨k,x,h1,by rw [List.getElem?_append_left (List.getElem?_eq_some_iff.1 h2).1];exact h2,h3⟩
theorem ValIn.sorts {t:List Node} {v:V} (h:ValIn t v) (hc:checkT t=true):0≤v.1∧v.1 < 6:=by
 obtain ⟨k,x,h1,h2,h3⟩:=h;have hs:=standsTo_at (checkT_parts.1 hc).2.1 h2;rw [stands_split] at hs;unfold headOkB at hs;simp only [Bool.and_eq_true,decide_eq_true_eq] at hs;rw [← h3];exact⟨hs.1.1.1.1.2,hs.1.1.1.2⟩
theorem put_bound:∀ (l:List UInt8) (p:Int × Bool),0≤p.1∧p.1≤4611686018427387904→0≤(putAll p l).1∧(putAll p l).1≤4611686018427387904
 | [],p,h=>h
 | c :: r,p,h=>by
  refine put_bound r _ ?_;show 0≤(putN p ((c.toNat:Int) % 16)).1∧(putN p ((c.toNat:Int) % 16)).1≤_;unfold putN
  split
  ·exact h
  ·constructor
   ·have:0≤(c.toNat:Int) % 16:=by omega
    show 0≤p.1 * 10+_
    omega
   ·show p.1 * 10+_≤_
    omega
theorem parse_may (l:List UInt8):mayB (parseV l)=true∧mayB (-parseV l)=true:=by
 have h:=put_bound l (0,false) ⟨by decide,by decide⟩
 have hb:0≤parseV l∧parseV l≤4611686018427387904:=by
  unfold parseV
  split
  ·split
   ·exact⟨by decide,by decide⟩
   ·exact h
  ·exact⟨by decide,by decide⟩
 exact⟨mayB_iff.2 ⟨by omega,by omega⟩,mayB_iff.2 ⟨by omega,by omega⟩⟩
theorem may_neg {n:Int} (h:mayB n=true):mayB (-n)=true:=by
 have:=mayB_iff.1 h;exact mayB_iff.2 ⟨by omega,by omega⟩
theorem parse_err {l:List UInt8} (h:isNum l=true):parseE l=0∨parseE l=10:=by
 unfold parseE;rw [h,if_pos rfl]
 split
 ·exact .inr rfl
 ·exact .inl rfl
theorem numN_stands {x:Sexp} (hx:x.stands=true) {n e:Int} (h:numN x=some (n,e)):mayB n=true∧(e=0∨e=10):=by
 have one:∀ y:Sexp,y.stands=true→y.kind=1→isNum (Lx.bs y.text)=true:=by
  intro y hy hk;rw [Sexp.stands_eq,hk,if_neg (by decide),if_pos rfl,Bool.and_eq_true] at hy;have:=hy.2;unfold numB at this;rw [Bool.and_eq_true] at this;exact this.1
 unfold numN at h
 split at h
 ·rename_i hk
  simp only [Option.some.injEq,Prod.mk.injEq] at h;obtain ⟨rfl,rfl⟩:=h;exact⟨(parse_may _).1,parse_err (one x hx hk)⟩
 ·split at h
  ·split at h
   ·rename_i y hl
    split at h
    ·rename_i hk
     simp only [Option.some.injEq,Prod.mk.injEq] at h;obtain ⟨rfl,rfl⟩:=h;exact⟨(parse_may _).2,parse_err (one y (l_stands hx y (by rw [hl];simp)) hk)⟩
    ·cases h
   ·cases h
  ·cases h
theorem opS_facts {op:Int} {l:List Int} {s:Int} (h:opS op l=some s) (hl:∀ x ∈ l,0≤x∧x < 6):arityN op=some ((l.length:Int),(l.length:Int))∧op≠13∧l.length≤3∧0≤s∧s < 6:=by
 obtain ⟨h1,h2⟩:=opS_len h;unfold ruleK at h1;have ho:=of_decide_eq_true h1;have:op=0∨op=1∨op=2∨op=3∨op=4∨op=5∨op=6∨op=7∨op=8∨op=9∨op=10∨op=11∨op=12:=by omega
 have hs:s=0∨s=1∨s ∈ l:=by
  unfold opS at h
  repeat' split at h
  all_goals first
   | (cases h;done)
   | (simp only [Option.some.injEq] at h;subst h;first | exact .inl rfl | exact .inr (.inl rfl) | exact .inr (.inr (by simp)))
 have hs6:0≤s∧s < 6:=by
  rcases hs with rfl | rfl | hs
  ·decide
  ·decide
  ·exact hl s hs
 refine⟨?_,by omega,?_,hs6.1,hs6.2⟩
 ·rw [h2];rcases this with rfl | rfl | rfl | rfl | rfl | rfl | rfl | rfl | rfl | rfl | rfl | rfl | rfl <;> decide
 ·have h3:(ruleL op).1≤3:=by
   rcases this with rfl | rfl | rfl | rfl | rfl | rfl | rfl | rfl | rfl | rfl | rfl | rfl | rfl <;> decide
  omega
theorem nth_arg (l:List V) (i:Nat) (op len s fn n:Int) (hi:i < 3):Node.arg ⟨op,len,nthN l 0,nthN l 1,nthN l 2,s,fn,n⟩ i=nthN l i:=by
 have:i=0∨i=1∨i=2:=by omega
 rcases this with rfl | rfl | rfl <;> rfl
theorem nth_in {t:List Node} {l:List V} (h:∀ v ∈ l,ValIn t v) {i:Nat} (hi:i < l.length):∃ (v:V) (k:Nat) (x:Node),l[i]?=some v∧nthN l i=(k:Int)∧t[k]?=some x∧x.sort=v.1:=by
 have hg:=List.getElem?_eq_getElem hi;obtain ⟨k,x,h1,h2,h3⟩:=h l[i] (List.getElem_mem hi);exact⟨l[i],k,x,hg,by unfold nthN;rw [List.getD_eq_getElem?_getD,hg];exact h1,h2,h3⟩
theorem args_ok {t:List Node} {l:List V} (h:∀ v ∈ l,ValIn t v) (op s fn n:Int) {i:Nat} (hi:i < 3):argOkB ⟨op,(l.length:Int),nthN l 0,nthN l 1,nthN l 2,s,fn,n⟩ t.length i=true:=by
 unfold argOkB;rw [nth_arg l i _ _ _ _ _ hi]
 by_cases hl:i < l.length
 ·rw [if_pos (show(i:Int) < (l.length:Int) by omega)];obtain ⟨v,k,x,_,h1,h2,_⟩:=nth_in h hl;have:=(List.getElem?_eq_some_iff.1 h2).1;rw [h1];simp
  omega
 ·rw [if_neg (show ¬ (i:Int) < (l.length:Int) by omega)];have:nthN l i=0:=by unfold nthN;rw [List.getD_eq_getElem?_getD,List.getElem?_eq_none (by omega)];rfl
  rw [this]
  rfl
theorem sorts_ok {t:List Node} {l:List V} (h:∀ v ∈ l,ValIn t v) (h3:l.length≤3) (op s fn n:Int):sortsTo t ⟨op,(l.length:Int),nthN l 0,nthN l 1,nthN l 2,s,fn,n⟩ l.length=l.map Prod.fst:=by
 unfold sortsTo;refine List.ext_getElem? fun i=>?_;rw [List.getElem?_map,List.getElem?_map]
 by_cases hi:i < l.length
 ·obtain ⟨v,k,x,hv,h1,h2,h4⟩:=nth_in h hi;rw [hv,List.getElem?_range hi];simp only [Option.map_some];rw [nth_arg l i _ _ _ _ _ (by omega),h1,Int.toNat_natCast,List.getD_eq_getElem?_getD,h2];exact congrArg some h4
 ·rw [List.getElem?_eq_none (by simpa using hi),List.getElem?_eq_none (by omega)]
  rfl
theorem op_stands {t:List Node} {l:List V} {k n s:Int} (hc:checkT t=true) (h:∀ v ∈ l,ValIn t v) (ho:opS k (l.map Prod.fst)=some s) (hn:mayB n=true) (hk:n=0∨k=10∨k=11∨k=12) (g:Sig) :
  standsN ⟨k,l.length,nthN l 0,nthN l 1,nthN l 2,s,0,n⟩ t.length=true∧sortProg g t ⟨k,l.length,nthN l 0,nthN l 1,nthN l 2,s,0,n⟩=(s,0):=by
 have hl:∀ x ∈ l.map Prod.fst,0≤x∧x < 6:=by
  intro x hx;obtain ⟨v,hv,rfl⟩:=List.mem_map.1 hx;exact(h v hv).sorts hc
 obtain ⟨f1,f2,f3,f4,f5⟩:=opS_facts ho hl;rw [List.length_map] at f1 f3
 constructor
 ·unfold standsN;rw [show(Node.mk k l.length (nthN l 0) (nthN l 1) (nthN l 2) s 0 n).op=k from rfl,f1];simp only;rw [args_ok h k s 0 n (by decide),args_ok h k s 0 n (by decide),args_ok h k s 0 n (by decide)];simp only [Int.le_refl,and_self,decide_true,Bool.true_and,Bool.and_true];rw [decide_eq_true (show 0≤s∧s < 6 from⟨f4,f5⟩)];simp only [Bool.true_and];rcases hk with rfl | rfl | rfl | rfl
  ·split
   ·simp [hn]
   ·simp
  ·simpa using hn
  ·simpa using hn
  ·simpa using hn
 ·unfold sortProg;rw [if_neg f2];show opProg k (sortsTo t _ (Int.toNat (l.length:Int)))=_;rw [Int.toNat_natCast,sorts_ok h f3];exact opProg_some.1 s ho
theorem app_stands {g:Sig} {t:List Node} {l:List V} {f:Fun4} {k:Nat} (hg:checkE g=0) (h:∀ v ∈ l,ValIn t v) (hf:g.funs[k]?=some f) (hlen:(l.length:Int)=f.len) (hs:∀ i,i < l.length→(l.getD i v0).1=Fun4.arg f i) :
  standsN ⟨13,f.len,nthN l 0,nthN l 1,nthN l 2,f.res,k,0⟩ t.length=true∧sortProg g t ⟨13,f.len,nthN l 0,nthN l 1,nthN l 2,f.res,k,0⟩=(f.res,0):=by
 have hb:checkB g=true:=by
  unfold checkE at hg
  split at hg
  ·assumption
  ·cases hg
 unfold checkB at hb;simp only [Bool.and_eq_true,decide_eq_true_eq] at hb;obtain ⟨⟨⟨hs4,hf12⟩,_⟩,⟨_,hfs⟩,_⟩:=hb;have hkl:=(List.getElem?_eq_some_iff.1 hf).1;unfold allTo at hfs;rw [List.all_eq_true] at hfs;have hfo:=hfs k (List.mem_range.2 hkl);unfold funOk at hfo;rw [hf] at hfo;simp only [Bool.and_eq_true] at hfo;have hfb:=hfo.2;unfold funB thereB at hfb;simp only [Bool.and_eq_true,decide_eq_true_eq] at hfb;obtain ⟨⟨⟨⟨⟨h0,h3⟩,hr⟩,_⟩,_⟩,_⟩:=hfb;rw [← hlen]
 constructor
 ·unfold standsN;rw [show(Node.mk 13 l.length (nthN l 0) (nthN l 1) (nthN l 2) f.res k 0).op=13 from rfl,show arityN 13=some (0,3) from rfl];simp only;rw [args_ok h 13 f.res k 0 (by decide),args_ok h 13 f.res k 0 (by decide),args_ok h 13 f.res k 0 (by decide)];rw [decide_eq_true (show 0≤f.res∧f.res < 6 by omega),decide_eq_true (show(0:Int)≤l.length∧(l.length:Int)≤3 by omega),decide_eq_true (show(0:Int)≤k∧(k:Int) < 12 by omega)];simp
 ·unfold sortProg;rw [if_pos rfl];show appProg g k (sortsTo t _ (Int.toNat (l.length:Int)))=_;rw [Int.toNat_natCast,sorts_ok h (by omega)];unfold appProg;rw [if_neg (by omega),Int.toNat_natCast,hf];simp only;rw [List.length_map,if_neg (by simp [hlen]),if_pos];refine argsB_all fun i hi=>?_;rw [List.length_map] at hi;rw [← hs i hi,List.getD_eq_getElem?_getD,List.getD_eq_getElem?_getD,List.getElem?_map,List.getElem?_eq_getElem hi]
  rfl
theorem sorts_none:∀ (l:List V) (q:List Int) (st:St),st.e=0→sortsM l q st=st→∀ i,i < l.length→i < q.length→(l.getD i v0).1=q.getD i 0
 | [],_,_,_,_,i,hi,_=>by simp at hi
 | _ :: _,[],_,_,_,i,_,hq=>by simp at hq
 | v :: l,s :: q,st,h0,h,i,hi,hq=>by
  unfold sortsM at h
  by_cases hv:v.1=s
  ·rw [if_neg (by simp [hv])] at h
   cases i with
   | zero=>exact hv
   | succ i=>exact sorts_none l q st h0 h i (by simpa using hi) (by simpa using hq)
  ·exfalso
   rw [if_pos ⟨h0,hv⟩,sorts_stick l q _ (by show(33:Int)≠0;decide)] at h;have:=congrArg St.e h;simp [h0] at this
def FitAt (g:Sig) (k:Nat) (m:Macro):Prop:=(termP ⟨g,0,false⟩ k m.body (envOf m.params) (st0 [])).2.e=0∧(termP ⟨g,0,false⟩ k m.body (envOf m.params) (st0 [])).1.1=m.res
def Fit (g:Sig):Prop:=∀ k m,g.macros[k]?=some m→FitAt g k m
def SoS (g:Sig) (most:Int) (s1 s2:St):Prop:=s1.e=0∧s2.e=0∧tableE g s2.t=0∧(s2.t.length:Int)≤most
def SoB (g:Sig) (s1 s2:St):Prop:=(s1.e≠0∧s1.e=s2.e)∨s2.e=10∨s2.e=40∨(¬ Fit g∧s2.e≠0)
def SoR (t:List Node) (v w:V):Prop:=v.1=w.1∧ValIn t w
theorem pw_right {P:V→V→Prop} {Q:V→Prop} (h:∀ v w,P v w→Q w):∀ {l m:List V},Pw P l m→∀ w ∈ m,Q w
 | [],[],_,w,hw=>by cases hw
 | v :: l,u :: m,⟨a,b⟩,w,hw=>by
  rcases List.mem_cons.1 hw with rfl | hw
  ·exact h _ _ a
  ·exact pw_right h b w hw
 | [],_ :: _,h,_,_=>h.elim
 | _ :: _,[],h,_,_=>h.elim
section
variable {g:Sig} {most:Int}
theorem so_put {s1 s2:St} {n:Node} (hs:SoS g most s1 s2) (h1:standsN n s2.t.length=true) (h2:sortProg g s2.t n=(n.sort,0)) :
  OutP (SoS g most) (SoB g) SoR s2.t ((n.sort,0),s1) (putM ⟨g,most,true⟩ n s2):=by
 obtain ⟨e1,e2,ht,hl⟩:=hs;unfold putM;rw [if_neg (by simp [e2])];rcases put_ok ht hl h1 h2 with⟨u,k,hp,hpre,hk,hu,hul⟩ | hp
 ·rw [hp];simp only [if_true];exact .inl ⟨⟨e1,e2,hu,hul⟩,⟨rfl,k,n,rfl,hk,rfl⟩,hpre⟩
 ·rw [hp];simp only;rw [if_neg (by decide)];exact .inr (.inr (.inr (.inl rfl)))
theorem so_op {s1 s2:St} (k n:Int) {l1 l2:List V} (hs:SoS g most s1 s2) (hl:Pw (SoR s2.t) l1 l2) (hn:mayB n=true) (hk:n=0∨k=10∨k=11∨k=12) :
  OutP (SoS g most) (SoB g) SoR s2.t (opM ⟨g,0,false⟩ k n l1 s1) (opM ⟨g,most,true⟩ k n l2 s2):=by
 have hs':=hs;obtain ⟨e1,e2,ht,hle⟩:=hs;have hso:l1.map Prod.fst=l2.map Prod.fst:=hl.sorts fun _ _ h=>h.1;have hin:=pw_right (Q:=ValIn s2.t) (fun _ _ h=>h.2) hl;have q1:¬ s1.e≠0:=by simp [e1]
 have q2:¬ s2.e≠0:=by simp [e2]
 unfold opM;rw [if_neg q1,if_neg q2,hso]
 cases ho:opS k (l2.map Prod.fst) with
 | none=>exact .inr (.inl ⟨by show(33:Int)≠0;decide,rfl⟩)
 | some s =>
  have hp:=so_put hs' (op_stands (table_parts.1 ht).2.1 hin ho hn hk g).1 (op_stands (table_parts.1 ht).2.1 hin ho hn hk g).2
  have h1:putM ⟨g,0,false⟩ ⟨k,l1.length,nthN l1 0,nthN l1 1,nthN l1 2,s,0,0⟩ s1=((s,0),s1):=by
   unfold putM;rw [if_pos (.inr rfl)]
  show OutP (SoS g most) (SoB g) SoR s2.t (putM ⟨g,0,false⟩ ⟨k,l1.length,nthN l1 0,nthN l1 1,nthN l1 2,s,0,0⟩ s1) (putM ⟨g,most,true⟩ ⟨k,l2.length,nthN l2 0,nthN l2 1,nthN l2 2,s,0,n⟩ s2);rw [h1];exact hp
theorem so_number {s1 s2:St} {x:Sexp} (hs:SoS g most s1 s2) (hx:x.stands=true) (hn:isNumX x=true) :
  (SoS g most (numberM ⟨g,0,false⟩ x s1).2 (numberM ⟨g,most,true⟩ x s2).2∧(numberM ⟨g,most,true⟩ x s2).2.t=s2.t∧mayB (numberM ⟨g,0,false⟩ x s1).1=true)∨SoB g (numberM ⟨g,0,false⟩ x s1).2 (numberM ⟨g,most,true⟩ x s2).2:=by
 unfold isNumX at hn;unfold numberM
 cases hx2:numN x with
 | none=>rw [hx2] at hn;cases hn
 | some p =>
  obtain ⟨n,e⟩:=p;obtain ⟨hm,he⟩:=numN_stands hx hx2;simp only;rcases he with rfl | rfl
  ·left
   simp;exact⟨hs,hm⟩
  ·right
   have:failS 10 s2={ s2 with e:=10 }:=by unfold failS;rw [if_pos hs.2.1]
   simp [this];exact .inr (.inl rfl)
theorem sorts_two:∀ (l1 l2:List V) (q:List Int) (s1 s2:St),l1.map Prod.fst=l2.map Prod.fst→s1.e=0→s2.e=0 →
  (sortsM l1 q s1=s1∧sortsM l2 q s2=s2)∨((sortsM l1 q s1).e=33∧(sortsM l2 q s2).e=33)
 | [],[],_,_,_,_,_,_=>.inl ⟨by unfold sortsM;rfl,by unfold sortsM;rfl⟩
 | v :: l1,w :: l2,[],_,_,_,_,_=>.inl ⟨by unfold sortsM;rfl,by unfold sortsM;rfl⟩
 | v :: l1,w :: l2,s :: q,s1,s2,h,h1,h2=>by
  simp only [List.map_cons,List.cons.injEq] at h;unfold sortsM
  by_cases hv:w.1=s
  ·rw [if_neg (by simp [h.1,hv]),if_neg (by simp [hv])];exact sorts_two l1 l2 q s1 s2 h.2 h1 h2
  ·rw [if_pos ⟨h1,by rw [h.1];exact hv⟩,if_pos ⟨h2,hv⟩]
   right
   rw [sorts_stick l1 q _ (by show(33:Int)≠0;decide),sorts_stick l2 q _ (by show(33:Int)≠0;decide)];exact⟨rfl,rfl⟩
 | [],_ :: _,_,_,_,h,_,_=>by simp at h
 | _ :: _,[],_,_,_,h,_,_=>by simp at h
theorem env_params {t:List Node}:∀ (ps:List Param) (l:List V),l.length=ps.length→(∀ i,i < l.length→(l.getD i v0).1=(ps.map Param.sort).getD i 0)→(∀ v ∈ l,ValIn t v)→EnvP (SoR t) (ps.map fun p=>(p.name,(p.sort,(0:Int)))) ((ps.map Param.name).zip l)
 | [],[],_,_,_=>trivial
 | p :: ps,v :: l,hl,hs,hi=>by
  refine⟨rfl,⟨?_,hi v (by simp)⟩,env_params ps l (by simpa using hl) (fun i h=>?_) (fun w hw=>hi w (by simp [hw]))⟩
  ·have:=hs 0 (by simp);exact this.symm
  ·have:=hs (i+1) (by simpa using h);exact this
 | [],_ :: _,hl,_,_=>by simp at hl
 | _ :: _,[],hl,_,_=>by simp at hl
theorem so_mac {s1 s2:St} (k:Nat) (m:Macro) {l1 l2:List V} (hm:g.macros[k]?=some m) (hs:SoS g most s1 s2) (hl:Pw (SoR s2.t) l1 l2) (hlen:l2.length=m.params.length)
  (hr:∀ {u1 u2 e1 e2},SoS g most u1 u2→EnvP (SoR u2.t) e1 e2→OutP (SoS g most) (SoB g) SoR u2.t (termP ⟨g,0,false⟩ k m.body e1 u1) (termP ⟨g,most,true⟩ k m.body e2 u2)) :
  OutP (SoS g most) (SoB g) SoR s2.t (macroM ⟨g,0,false⟩ (termP ⟨g,0,false⟩) m k l1 s1) (macroM ⟨g,most,true⟩ (termP ⟨g,most,true⟩) m k l2 s2):=by
 obtain ⟨e1,e2,ht,hle⟩:=hs;have hso:l1.map Prod.fst=l2.map Prod.fst:=hl.sorts fun _ _ h=>h.1;have hin:=pw_right (Q:=ValIn s2.t) (fun _ _ h=>h.2) hl;unfold macroM;simp only;rw [if_pos (.inr trivial)];rcases sorts_two l1 l2 (m.params.map Param.sort) s1 s2 hso e1 e2 with⟨h1,h2⟩ | ⟨h1,h2⟩
 ·rw [h1,h2,if_neg (by simp [e2])]
  by_cases hc:300 < s2.calls+1
  ·rw [if_pos hc];exact .inr (.inr (.inr (.inl rfl)))
  rw [if_neg hc];have hsr:=sorts_none l2 (m.params.map Param.sort) s2 e2 h2;have hev:=env_params (t:=s2.t) m.params l2 hlen (fun i hi=>hsr i hi (by rw [List.length_map];omega)) hin;have hout:=hr (u1:=st0 []) (u2:={ s2 with calls:=s2.calls+1 }) (e1:=envOf m.params) (e2:=((m.params.map Param.name).zip l2).reverse) ⟨rfl,e2,ht,hle⟩ (EnvP.reverse hev);have hF:Fit g→(termP ⟨g,0,false⟩ k m.body (envOf m.params) (st0 [])).2.e=0∧(termP ⟨g,0,false⟩ k m.body (envOf m.params) (st0 [])).1.1=m.res:=fun h=>h k m hm;generalize termP ⟨g,0,false⟩ k m.body (envOf m.params) (st0 [])=p at *;generalize termP ⟨g,most,true⟩ k m.body ((m.params.map Param.name).zip l2).reverse { s2 with calls:=s2.calls+1 }=q at *;rcases hout with⟨⟨a1,a2,a3,a4⟩,⟨b1,b2⟩,b3⟩ | hB
  ·by_cases hq:q.1.1=m.res
   ·rw [if_neg (fun h=>h.2 hq)];exact .inl ⟨⟨e1,a2,a3,a4⟩,⟨hq.symm,b2⟩,b3⟩
   ·rw [if_pos ⟨a2,hq⟩];refine .inr (.inr (.inr (.inr ⟨fun hfit=>hq ?_,by show(33:Int)≠0;decide⟩)));rw [← b1];exact(hF hfit).2
  ·have hne:q.2.e≠0:=by
    rcases hB with⟨h1,h2⟩ | h | h | ⟨_,h⟩
    ·rw [← h2];exact h1
    ·rw [h];decide
    ·rw [h];decide
    ·exact h
   rw [if_neg (fun h=>hne h.1)];refine .inr ?_;rcases hB with⟨h1,h2⟩ | h | h | h
   ·exact .inr (.inr (.inr ⟨fun hfit=>h1 (hF hfit).1,hne⟩))
   ·exact .inr (.inl h)
   ·exact .inr (.inr (.inl h))
   ·exact .inr (.inr (.inr h))
 ·rw [if_pos (.inl (by rw [h2];decide))];exact .inr (.inl ⟨by show(sortsM l1 _ s1).e≠0;rw [h1];decide,by show(sortsM l1 _ s1).e=(sortsM l2 _ s2).e;rw [h1,h2]⟩)
end
def simSort (g:Sig) (most:Int):Sim ⟨g,0,false⟩ ⟨g,most,true⟩ where
 same:=rfl
 S:=SoS g most
 B:=SoB g
 R:=SoR
 N:=fun n=>mayB n=true
 ok:=fun h=>⟨h.1,h.2.1⟩
 bad:=fun h h1 h2=>by
  rcases h with⟨a,b⟩ | a | a | ⟨a,b⟩
  ·have e1:=h1 a;have e2:=h2 (by rw [← b];exact a);subst e1 e2;exact .inl ⟨a,b⟩
  ·have e2:=h2 (by rw [a];decide);subst e2;exact .inr (.inl a)
  ·have e2:=h2 (by rw [a];decide);subst e2;exact .inr (.inr (.inl a))
  ·have e2:=h2 b;subst e2;exact .inr (.inr (.inr ⟨a,b⟩))
 bad_ne:=fun h=>by
  rcases h with⟨a,b⟩ | a | a | ⟨a,b⟩
  ·exact .inl a
  ·right;rw [a];decide
  ·right;rw [a];decide
  ·exact .inr b
 mono:=fun h hp=>⟨h.1,h.2.more hp⟩
 sort:=fun h=>h.1
 zero:=by decide
 neg:=may_neg
 nought:=fun {s1 s2} h=>⟨rfl,by
  have h2:=(checkT_parts.1 (table_parts.1 h.2.2.1).2.1).1;refine⟨0,nodeTrue,rfl,?_,rfl⟩;have:(s2.t.take 2)[0]?=some nodeTrue:=by rw [h2];rfl
  rwa [List.getElem?_take_of_lt (by decide)] at this⟩
 op:=fun {s1 s2} k n {l1 l2} hs hl hn hk=>so_op k n hs hl hn hk
 diff:=fun {s1 s2} n {v1 v2 w1 w2} hs hv hw=>by
  unfold diffM;rw [if_neg (by simp)]
  by_cases hm:mayB n=true
  ·rw [if_neg (by simp [hm])];exact so_op 12 n (l1:=[v1,w1]) (l2:=[v2,w2]) hs ⟨hv,hw,trivial⟩ hm (.inr (.inr (.inr rfl)))
  ·rw [if_pos ⟨rfl,hs.2.1,by simpa using hm⟩];exact .inr (.inr (.inl rfl))
 number:=fun hs hx hn=>so_number hs hx hn
 fail:=fun {s1 s2} e hs he=>by
  have a:failS e s1={ s1 with e:=e }:=by unfold failS;rw [if_pos hs.1]
  have b:failS e s2={ s2 with e:=e }:=by unfold failS;rw [if_pos hs.2.1]
  rw [a,b];exact .inl ⟨he,rfl⟩
 app:=fun {s1 s2} k f {l1 l2} hf hs hl hlen hsm=>by
  have hin:=pw_right (Q:=ValIn s2.t) (fun _ _ h=>h.2) hl
  have h3:l2.length≤3:=by
   have hcg:=(table_parts.1 hs.2.2.1).1;unfold checkE at hcg
   split at hcg
   ·rename_i hb
    unfold checkB at hb;simp only [Bool.and_eq_true] at hb;have hfs:=hb.2.1.2;unfold allTo at hfs;rw [List.all_eq_true] at hfs;have hfo:=hfs k (List.mem_range.2 (List.getElem?_eq_some_iff.1 hf).1);unfold funOk at hfo;have hf':g.funs[k]?=some f:=hf;rw [hf'] at hfo;simp only [Bool.and_eq_true] at hfo;have hfb:=hfo.2;unfold funB at hfb;simp only [Bool.and_eq_true,decide_eq_true_eq] at hfb;have:=hfb.1.1.1.1
    omega
   ·cases hcg
  have ha:=app_stands (table_parts.1 hs.2.2.1).1 hin hf hlen (fun i hi=>by
   have:=sorts_none l2 [f.a0,f.a1,f.a2] s2 hs.2.1 hsm i hi (by simp;omega);rw [this];have hc:i=0∨i=1∨i=2:=by omega
   rcases hc with rfl | rfl | rfl <;> rfl)
  have hp:=so_put (n:=⟨13,f.len,nthN l2 0,nthN l2 1,nthN l2 2,f.res,k,0⟩) hs ha.1 ha.2;unfold appN
  have h1:putM ⟨g,0,false⟩ ⟨13,f.len,nthN l1 0,nthN l1 1,nthN l1 2,f.res,k,0⟩ s1=((f.res,0),s1):=by
   unfold putM;rw [if_pos (.inr rfl)]
  rw [h1];exact hp
 mac:=fun {s1 s2} k m {l1 l2} hm hs hl hlen hr=>so_mac k m hm hs hl hlen hr
end Go.Proofs.YtpmdcckapddchaaGreat.El
/- A term's sort is its node's, its table is well sorted; an error of sorts leaves nothing. No program in sight. -/
namespace Go.Proofs.YtpmdcckapddchaaGreat.El
open Go.RowKit Go.Proofs.YtpmdcckapddchaaGreat.Dt Go.Proofs.YtpmdcckapddchaaGreat.Sg
def fitsB (g:Sig):Bool:=(List.range g.macros.length).all fun i=>decide (checkE g=0) && decide (checkE (cutG g i)=0) && (match g.macros[i]? with
 | some m=>decide (fitsO (cutG g i) m=0)
 | none=>true)
theorem fits_zero {g:Sig} {m:Macro} (h:fitsO g m=0):(sortP g (envOf m.params) m.body).2.e=0∧(sortP g (envOf m.params) m.body).1.1=m.res:=by
 unfold fitsO at h;simp only at h
 have h2:(sortO g (envOf m.params) m.body).2=0∧(sortO g (envOf m.params) m.body).1=m.res:=by
  split at h
  ·cases h
  ·rename_i hn
   exact⟨h,Decidable.byContradiction fun e=>hn ⟨h,e⟩⟩
 unfold sortO at h2
 split at h2
 ·exact absurd h2.1 (by decide)
 ·split at h2
  ·rename_i he
   exact⟨he,h2.2⟩
  ·rename_i he
   exact absurd h2.1 he
theorem fits_fit {g:Sig} (h:fitsB g=true):Fit g:=by
 intro k m hm;have hk:=(List.getElem?_eq_some_iff.1 hm).1;unfold fitsB at h;rw [List.all_eq_true] at h;have h1:=h k (List.mem_range.2 hk);rw [hm] at h1;simp only [Bool.and_eq_true,decide_eq_true_eq] at h1;have h2:=fits_zero h1.2;unfold sortP at h2;rw [show(cutG g k).macros.length=k by show(g.macros.take k).length=k;rw [List.length_take];omega,term_cut g k 0 false _ k m.body (Nat.lt_succ_self _) (Nat.le_refl _)] at h2;exact h2
theorem macro_bodies {g:Sig} (hg:checkE g=0):∀ m ∈ g.macros,m.body.stands=true:=by
 intro m hm;unfold checkE at hg
 split at hg
 ·rename_i hb
  unfold checkB at hb;simp only [Bool.and_eq_true] at hb;have hms:=hb.2.2;unfold allTo at hms;rw [List.all_eq_true] at hms;obtain ⟨k,hk⟩:=List.getElem?_of_mem hm;have hmo:=hms k (List.mem_range.2 (List.getElem?_eq_some_iff.1 hk).1);unfold macOk at hmo;rw [hk] at hmo;simp only [Bool.and_eq_true] at hmo;have hmb:=hmo.2;unfold macroB at hmb;simp only [Bool.and_eq_true] at hmb;have:=hmb.1.2;unfold Sexp.may at this;rw [Bool.and_eq_true] at this;exact this.2
 ·cases hg
theorem newT_sorted (g:Sig):sortedB g newT=true:=by
 refine sortedB_all fun k n hk hn=>?_;have:k=0∨k=1:=by have:newT.length=2:=rfl;omega
 rcases this with rfl | rfl
 ·obtain rfl:nodeTrue=n:=by simpa [newT] using hn
  unfold sortedN sortProg;rw [if_neg (by decide)];exact(by decide:(decide ((opProg 0 []).2=0) && decide ((opProg 0 []).1=0))=true)
 ·obtain rfl:nodeZero=n:=by simpa [newT] using hn
  unfold sortedN sortProg;rw [if_neg (by decide)];exact(by decide:(decide ((opProg 10 []).2=0) && decide ((opProg 10 []).1=1))=true)
theorem newT_table {g:Sig} (hg:checkE g=0):tableE g newT=0:=table_parts.2 ⟨hg,by decide,newT_sorted g⟩
theorem sorts_plain (g:Sig) (x:Sexp) :
  ((sortO g [] x).2≠0→termO g newT x 200=([],0,(sortO g [] x).2)) ∧
  ((sortO g [] x).2=0→(termO g newT x 200).2.2≠0→(termO g newT x 200).2.2=10∨(termO g newT x 200).2.2=40∨fitsB g=false) ∧
  ((sortO g [] x).2=0→(termO g newT x 200).2.2=0→tableE g (termO g newT x 200).1=0∧(termO g newT x 200).1.length≤200∧∃ (k:Nat) (n:Node),(termO g newT x 200).2.1=(k:Int)∧(termO g newT x 200).1[k]?=some n∧n.sort=(sortO g [] x).1):=by
 by_cases hg:checkE g=0
 ·have ht:=newT_table hg
  have hT:termO g newT x 200=if(sortO g [] x).2≠0 then([],0,(sortO g [] x).2) else if(makeP g 200 x newT).2.e≠0 then([],0,(makeP g 200 x newT).2.e) else((makeP g 200 x newT).2.t,(makeP g 200 x newT).1.2,0):=by
   unfold termO;rw [if_neg (fun h=>h ht)]
  rw [hT]
  by_cases hs:(sortO g [] x).2=0
  ·rw [if_neg (fun h=>h hs)];refine⟨fun h=>absurd hs h,?_⟩;have hs2:=hs;have hcond:¬ (checkE g≠0∨x.may=false):=fun hc=>by unfold sortO at hs2;rw [if_pos hc] at hs2;exact absurd hs2 (by decide)
   have hmay:x.may=true:=by
    cases hm:x.may with
    | true=>rfl
    | false=>exact absurd (Or.inr hm) hcond
   have hst:x.stands=true:=by unfold Sexp.may at hmay;rw [Bool.and_eq_true] at hmay;exact hmay.2
   have hse:(sortP g [] x).2.e=0∧(sortO g [] x).1=(sortP g [] x).1.1:=by
    unfold sortO at hs2 ⊢;rw [if_neg hcond] at hs2 ⊢
    by_cases he:(sortP g [] x).2.e=0
    ·rw [if_pos he];exact⟨he,rfl⟩
    ·rw [if_neg he] at hs2;exact absurd hs2 he
   have hout:=term_sim (simSort g 200) (macro_bodies hg) _ g.macros.length g.macros.length x (Nat.lt_succ_self _) (.inl rfl) hst [] [] (st0 []) (st0 newT) ⟨rfl,rfl,ht,by decide⟩ trivial;rw [hse.2];unfold sortP at hse ⊢;unfold makeP;generalize termP ⟨g,0,false⟩ g.macros.length x [] (st0 [])=p at *;generalize termP ⟨g,200,true⟩ g.macros.length x [] (st0 newT)=q at *;rcases hout with⟨⟨a1,a2,a3,a4⟩,⟨b1,k,n,b2,b3,b4⟩,_⟩ | hB
   ·have a2':¬ q.2.e≠0:=fun h=>h a2;rw [if_neg a2'];have a4':q.2.t.length≤200:=Int.ofNat_le.1 a4;exact⟨fun _ h=>absurd rfl h,fun _ _=>⟨a3,a4',k,n,b2,b3,by rw [b4];exact b1.symm⟩⟩
   ·have hne:q.2.e≠0:=by
     rcases hB with⟨h1,h2⟩ | h | h | ⟨_,h⟩
     ·rw [← h2];exact h1
     ·rw [h];decide
     ·rw [h];decide
     ·exact h
    rw [if_pos hne];refine⟨fun _ _=>?_,fun _ h=>absurd h hne⟩;rcases hB with⟨h1,h2⟩ | h | h | ⟨h,_⟩
    ·exact absurd hse.1 h1
    ·exact .inl h
    ·exact .inr (.inl h)
    ·refine .inr (.inr ?_)
     cases hf:fitsB g with
     | false=>rfl
     | true=>exact absurd (fits_fit hf) h
  ·rw [if_pos hs];exact⟨fun _=>rfl,fun h=>absurd h hs,fun h=>absurd h hs⟩
 ·have hs:sortO g [] x=(0,2):=by unfold sortO;rw [if_pos (.inl hg)]
  have ht:tableE g newT=2:=by unfold tableE;rw [if_pos (.inl hg)]
  have hT:termO g newT x 200=([],0,2):=by unfold termO;rw [if_pos (by rw [ht];decide)]
  rw [hs,hT];exact⟨fun _=>rfl,fun h=>absurd h (by decide),fun h=>absurd h (by decide)⟩
inductive RdAll:List UInt8→List Sexp→List UInt8→Prop
 | nil {l rest:List UInt8} (h:nextL (skipL false l)=.tok 1 [] rest):RdAll l [] rest
 | cons {l m rest:List UInt8} {x:Sexp} {xs:List Sexp} (hc:∀ t q,nextL (skipL false l)≠.tok 1 t q) (hx:Rd l x m) (hr:RdAll m xs rest):RdAll l (x :: xs) rest
theorem RdAll.places {l rest:List UInt8} {xs:List Sexp} (h:RdAll l xs rest):∃ f:Nat→List UInt8,f 0=l∧(∀ i,i < xs.length→∀ t q,nextL (skipL false (f i))≠.tok 1 t q)∧(∀ i x,xs[i]?=some x→Rd (f i) x (f (i+1)))∧nextL (skipL false (f xs.length))=.tok 1 [] rest:=by
 induction h with
 | @nil l rest h=>exact⟨fun _=>l,rfl,fun i hi=>by simp at hi,fun i x hx=>by simp at hx,h⟩
 | @cons l m rest x xs hc hx hr ih =>
  obtain ⟨f,h0,h1,h2,h3⟩:=ih;refine⟨fun i=>match i with | 0=>l | j+1=>f j,rfl,fun i hi=>?_,fun i y hy=>?_,h3⟩
  ·cases i with
   | zero=>exact hc
   | succ j=>exact h1 j (by simp at hi;omega)
  ·cases i with
   | zero =>
    obtain rfl:x=y:=by simpa using hy
    show Rd l x (f 0);rw [h0];exact hx
   | succ j=>exact h2 j y (by simpa using hy)
theorem Rd.of_all {l r rest:List UInt8} {xs:List Sexp} (h:nextL (skipL false l)=.tok 0 [] r) (ha:RdAll r xs rest):Rd l (.mk 3 { data:=#[] } xs) rest:=by
 obtain ⟨f,h0,h1,h2,h3⟩:=ha.places;exact .list f h h0 h1 h2 h3
def bX:ByteArray:={ data:=#[120] }
def bY:ByteArray:={ data:=#[121] }
def bF:ByteArray:={ data:=#[102] }
def bP:ByteArray:={ data:=#[112] }
def bS:ByteArray:={ data:=#[115] }
def b3:ByteArray:={ data:=#[51] }
def smallG:Sig:=⟨[{ data:=#[83] }],[⟨bX,0,0,0,0,1⟩,⟨bY,0,0,0,0,1⟩,⟨bF,1,1,0,0,1⟩,⟨bP,0,0,0,0,0⟩,⟨bS,0,0,0,0,2⟩],[]⟩
def txA:ByteArray:={ data:=#[40,60,61,32,40,45,32,120,32,121,41,32,51,41] }
def txB:ByteArray:={ data:=#[40,100,105,115,116,105,110,99,116,32,120,32,121,41] }
def txC:ByteArray:={ data:=#[40,43,32,120,32,121,41] }
def xA:Sexp:=.mk 3 { data:=#[] } [symX sLe,.mk 3 { data:=#[] } [symX sMinus,symX bX,symX bY],.mk 1 b3 []]
def xB:Sexp:=.mk 3 { data:=#[] } [symX sDistinct,symX bX,symX bY]
def xC:Sexp:=.mk 3 { data:=#[] } [symX sPlus,symX bX,symX bY]
theorem not_close {l:List UInt8} {k:Int} {t r:List UInt8} (h:nextL (skipL false l)=.tok k t r) (hk:k≠1):∀ t q,nextL (skipL false l)≠.tok 1 t q:=by
 intro t q e;rw [h] at e;simp only [Tk.tok.injEq] at e;exact hk e.1
theorem RdAll.sym {l t r rest:List UInt8} {s:ByteArray} {xs:List Sexp} (h:nextL (skipL false l)=.tok 2 t r) (hs:Lx.bs s=t) (hr:RdAll r xs rest):RdAll l (symX s :: xs) rest:=.cons (not_close h (by decide)) (.name h hs) hr
theorem rdA:Rd (from_ txA 0) xA []:=by
 refine Rd.of_all (r:=[60,61,32,40,45,32,120,32,121,41,32,51,41]) (by kernel_rfl) ?_;refine RdAll.sym (t:=[60,61]) (r:=[32,40,45,32,120,32,121,41,32,51,41]) (by kernel_rfl) (by kernel_rfl) ?_;refine .cons (m:=[32,51,41]) (not_close (k:=0) (t:=[]) (r:=[45,32,120,32,121,41,32,51,41]) (by kernel_rfl) (by decide)) ?_ ?_
 ·refine Rd.of_all (r:=[45,32,120,32,121,41,32,51,41]) (by kernel_rfl) ?_;refine RdAll.sym (t:=[45]) (r:=[32,120,32,121,41,32,51,41]) (by kernel_rfl) (by kernel_rfl) ?_;refine RdAll.sym (t:=[120]) (r:=[32,121,41,32,51,41]) (by kernel_rfl) (by kernel_rfl) ?_;refine RdAll.sym (t:=[121]) (r:=[41,32,51,41]) (by kernel_rfl) (by kernel_rfl) ?_;exact .nil (by kernel_rfl)
 ·refine .cons (m:=[41]) (not_close (k:=3) (t:=[51]) (r:=[41]) (by kernel_rfl) (by decide)) (.num (t:=[51]) (by kernel_rfl) (by kernel_rfl)) ?_;exact .nil (by kernel_rfl)
theorem rdB:Rd (from_ txB 0) xB []:=by
 refine Rd.of_all (r:=[100,105,115,116,105,110,99,116,32,120,32,121,41]) (by kernel_rfl) ?_;refine RdAll.sym (t:=[100,105,115,116,105,110,99,116]) (r:=[32,120,32,121,41]) (by kernel_rfl) (by kernel_rfl) ?_;refine RdAll.sym (t:=[120]) (r:=[32,121,41]) (by kernel_rfl) (by kernel_rfl) ?_;refine RdAll.sym (t:=[121]) (r:=[41]) (by kernel_rfl) (by kernel_rfl) ?_;exact .nil (by kernel_rfl)
theorem rdC:Rd (from_ txC 0) xC []:=by
 refine Rd.of_all (r:=[43,32,120,32,121,41]) (by kernel_rfl) ?_;refine RdAll.sym (t:=[43]) (r:=[32,120,32,121,41]) (by kernel_rfl) (by kernel_rfl) ?_;refine RdAll.sym (t:=[120]) (r:=[32,121,41]) (by kernel_rfl) (by kernel_rfl) ?_;refine RdAll.sym (t:=[121]) (r:=[41]) (by kernel_rfl) (by kernel_rfl) ?_;exact .nil (by kernel_rfl)
def ansB (o:List Node × Int × Int) (p:Node→Bool):Bool:=decide (o.2.2=0) && decide (0≤o.2.1) && (match o.1[o.2.1.toNat]? with | some n=>p n | none=>false)
theorem ansB_out {o:List Node × Int × Int} {p:Node→Bool} (h:ansB o p=true):o.2.2=0∧∃ k:Nat,o.2.1=k∧∃ n,o.1[k]?=some n∧p n=true:=by
 unfold ansB at h;simp only [Bool.and_eq_true,decide_eq_true_eq] at h;obtain ⟨⟨h1,h2⟩,h3⟩:=h;obtain ⟨k,hk⟩:=Int.eq_ofNat_of_zero_le h2;rw [hk] at h3;refine⟨h1,k,hk,?_⟩
 cases hn:o.1[k]? with
 | none=>simp [hn] at h3
 | some n=>exact⟨n,rfl,by simpa [hn] using h3⟩
set_option maxRecDepth 100000 in
theorem ansA:ansB (termO smallG newT xA 200) (fun n=>decide (n.op=12) && decide (n.n=3))=true:=by decide +kernel
set_option maxRecDepth 100000 in
theorem ansBd:ansB (termO smallG newT xB 200) (fun n=>decide (n.op=1))=true:=by decide +kernel
set_option maxRecDepth 100000 in
theorem ansC:(termO smallG newT xC 200).2.2=34:=by decide +kernel
theorem lies_blk {α β:Type} {n:Nat} {R:World→List Value→β→Prop} {w:World} {b:Nat} {t:TypeId} {fr:Nat × Nat} {val:α→List Value} {f:α→β} {L:List Value} (ys:List α) (h:w.heap[b]?=some (.cells L.toArray t fr)) (hL:flatV val ys <+: L) (hv:∀ y,(val y).length=n) (hR:∀ y ∈ ys,R w (val y) (f y)) :
  Lies n R w (some ⟨b,0,none⟩) (ys.map f):=by
 refine .inr ⟨b,0,rfl,lt_of_block h,fun i x hx=>?_⟩;rw [List.getElem?_map] at hx
 cases hy:ys[i]? with
 | none=>rw [hy] at hx;cases hx
 | some y =>
  rw [hy] at hx;obtain rfl:f y=x:=by simpa using hx
  refine⟨val y,hv y,fun j u hu=>?_,hR y (List.mem_of_getElem? hy)⟩;have h1:=flatV_at hv ys i y hy j u hu;obtain ⟨r,hr⟩:=hL;rw [Nat.zero_add,cell_of_row w b (i * n+j) L.toArray t fr h,List.getElem?_toArray,← hr,List.getElem?_append_left (List.getElem?_eq_some_iff.1 h1).1];exact h1
theorem sexp_ret {f:Func} {w:World} {b:Nat} {r0 r1 r2:Value} {act:Act} {t:TypeId} {R:Ending→World→Prop} (hf:f.results=#[.cell 8 30]) (hb:w.heap[b]?=some (.cells #[r0,r1,r2] t (0,0))) (h2:act.tmps[8]?=some (.pointer (some ⟨b,0,none⟩))) (hd:act.defers=[]) (hR:R (.returned (.agg #[r0,r1,r2])) w) :
  bodyPost Tryz.prog f R .ret act w:=by
 obtain ⟨y0,y1,y2,_⟩:=Bk.c3 hb;refine bodyPost_ret (v:=.agg #[r0,r1,r2]) ?_ hd hR;simp [results,hf,go_sem,y0,y1,y2,h2]
def ListPost (w:World) (l:List SxB) (n:Nat) (e:Ending) (w':World):Prop :=
 (∃ b,e=.returned (.agg #[.int .i8 3,.string { data:=#[] },.slice (some ⟨b,0,none⟩) n 3])∧w.heap.size≤b∧w'.heap[b]?=some (.cells (flatV sxV l).toArray 30 (0,0)))∧Below w.heap.size w w'
set_option maxRecDepth 100000 in
set_option maxHeartbeats 3200000 in
theorem list_any (w:World) (x y z:SxB) (n:Nat) (hn:n≤3) :
  Calls Tryz.prog 10 #[.agg (sxV x).toArray,.agg (sxV y).toArray,.agg (sxV z).toArray,.int .i64 n] w (ListPost w [x,y,z] n):=by
 obtain ⟨x,A,a⟩:=x;obtain ⟨y,B,b⟩:=y;obtain ⟨z,C,c⟩:=z;simp only [sxV];have B4:=kp (((((Below.refl w.heap.size w).alloc (Nat.le_refl _) (.cells #[.int .i8 x.kind,.string x.text,.slice A x.l.length a] 30)).alloc (by simp) (.cells #[.int .i8 y.kind,.string y.text,.slice B y.l.length b] 30)).alloc (by simp;omega) (.cells #[.int .i8 z.kind,.string z.text,.slice C z.l.length c] 30)).alloc (by simp;omega) (.cells #[.int .i8 0,.string { data:=#[] },.slice none 0 0] 30));have X4:=kp (Bk.keep (Bk.keep (Bk.keep (Bk.new w (.cells #[.int .i8 x.kind,.string x.text,.slice A x.l.length a] 30)) (.cells #[.int .i8 y.kind,.string y.text,.slice B y.l.length b] 30)) (.cells #[.int .i8 z.kind,.string z.text,.slice C z.l.length c] 30)) (.cells #[.int .i8 0,.string { data:=#[] },.slice none 0 0] 30))
 have Y4:=kp (Bk.keep (Bk.keep (show((w.alloc (.cells #[.int .i8 x.kind,.string x.text,.slice A x.l.length a] 30)).alloc (.cells #[.int .i8 y.kind,.string y.text,.slice B y.l.length b] 30)).heap[w.heap.size+1]?=some (.cells #[.int .i8 y.kind,.string y.text,.slice B y.l.length b] 30 (0,0)) by
  have h:=Bk.new (w.alloc (.cells #[.int .i8 x.kind,.string x.text,.slice A x.l.length a] 30)) (.cells #[.int .i8 y.kind,.string y.text,.slice B y.l.length b] 30);simpa using h) (.cells #[.int .i8 z.kind,.string z.text,.slice C z.l.length c] 30)) (.cells #[.int .i8 0,.string { data:=#[] },.slice none 0 0] 30))
 have Z4:=kp (Bk.keep (show(((w.alloc (.cells #[.int .i8 x.kind,.string x.text,.slice A x.l.length a] 30)).alloc (.cells #[.int .i8 y.kind,.string y.text,.slice B y.l.length b] 30)).alloc (.cells #[.int .i8 z.kind,.string z.text,.slice C z.l.length c] 30)).heap[w.heap.size+2]?=some (.cells #[.int .i8 z.kind,.string z.text,.slice C z.l.length c] 30 (0,0)) by
  have h:=Bk.new ((w.alloc (.cells #[.int .i8 x.kind,.string x.text,.slice A x.l.length a] 30)).alloc (.cells #[.int .i8 y.kind,.string y.text,.slice B y.l.length b] 30)) (.cells #[.int .i8 z.kind,.string z.text,.slice C z.l.length c] 30);simpa using h) (.cells #[.int .i8 0,.string { data:=#[] },.slice none 0 0] 30))
 have R4:=kp (show((((w.alloc (.cells #[.int .i8 x.kind,.string x.text,.slice A x.l.length a] 30)).alloc (.cells #[.int .i8 y.kind,.string y.text,.slice B y.l.length b] 30)).alloc (.cells #[.int .i8 z.kind,.string z.text,.slice C z.l.length c] 30)).alloc (.cells #[.int .i8 0,.string { data:=#[] },.slice none 0 0] 30)).heap[w.heap.size+3]?=some (.cells #[.int .i8 0,.string { data:=#[] },.slice none 0 0] 30 (0,0)) by
  have h:=Bk.new (((w.alloc (.cells #[.int .i8 x.kind,.string x.text,.slice A x.l.length a] 30)).alloc (.cells #[.int .i8 y.kind,.string y.text,.slice B y.l.length b] 30)).alloc (.cells #[.int .i8 z.kind,.string z.text,.slice C z.l.length c] 30)) (.cells #[.int .i8 0,.string { data:=#[] },.slice none 0 0] 30);simpa using h)
 have hn1:(n:Int)≤3:=by omega
 go_enter Tryz.func10,Tryz.ntmps10
 go_upto_region 1 with fail
 generalize (((w.alloc (.cells #[.int .i8 x.kind,.string x.text,.slice A x.l.length a] 30)).alloc (.cells #[.int .i8 y.kind,.string y.text,.slice B y.l.length b] 30)).alloc (.cells #[.int .i8 z.kind,.string z.text,.slice C z.l.length c] 30)).alloc (.cells #[.int .i8 0,.string { data:=#[] },.slice none 0 0] 30)=w4 at *;obtain ⟨x0,x1,x2,xf⟩:=Bk.c3 X4.out;obtain ⟨y0,y1,y2,yf⟩:=Bk.c3 Y4.out;obtain ⟨z0,z1,z2,zf⟩:=Bk.c3 Z4.out;have L5:=kp (Bk.new w4 (.cells #[.int .i8 x.kind,.string x.text,.slice A x.l.length a,.int .i8 y.kind,.string y.text,.slice B y.l.length b,.int .i8 z.kind,.string z.text,.slice C z.l.length c] 30));have R5:=kp (Bk.keep R4.out (.cells #[.int .i8 x.kind,.string x.text,.slice A x.l.length a,.int .i8 y.kind,.string y.text,.slice B y.l.length b,.int .i8 z.kind,.string z.text,.slice C z.l.length c] 30));have B5:=kp (B4.out.alloc B4.out.size (.cells #[.int .i8 x.kind,.string x.text,.slice A x.l.length a,.int .i8 y.kind,.string y.text,.slice B y.l.length b,.int .i8 z.kind,.string z.text,.slice C z.l.length c] 30));have HN:=kp (show w4.heap.size≠w.heap.size+3 from by have:=lt_of_block R4.out;omega);have HL:=kp B4.out.size;go_upto_region 2 with fail
 generalize w4.alloc (.cells #[.int .i8 x.kind,.string x.text,.slice A x.l.length a,.int .i8 y.kind,.string y.text,.slice B y.l.length b,.int .i8 z.kind,.string z.text,.slice C z.l.length c] 30)=w5 at *;generalize w4.heap.size=lb at *;clear x0 x1 x2 xf y0 y1 y2 yf z0 z1 z2 zf;obtain ⟨r0,r1,r2,rf⟩:=Bk.c3 R5.out;go_wp2_with fail
 exact sexp_ret (w:=set3' w5 (w.heap.size+3) _ _ _) Tryz.results10 (set3'_at R5.out _ _ _) rfl rfl ⟨⟨lb,rfl,HL.out,Bk.apart (Bk.apart (Bk.apart L5.out (p:=⟨w.heap.size+3,0,none⟩) HN.out _) (p:=⟨w.heap.size+3,1,none⟩) HN.out _) (p:=⟨w.heap.size+3,2,none⟩) HN.out _⟩,set3'_below B5.out (by omega) _ _ _⟩
end Go.Proofs.YtpmdcckapddchaaGreat.El
