import Derived.Test.YtpmdcckapddchaaGreatShort
import Derived.Test.YtpmdcckapddchaaGreatMs
import Derived.Test.YtpmdcckapddchaaGreatMn
import Derived.Test.YtpmdcckapddchaaGreatMq
import Derived.Test.YtpmdcckapddchaaGreatMh
import Derived.Test.YtpmdcckapddchaaGreatMb
import Derived.Test.YtpmdcckapddchaaGreatMe
import Derived.Test.YtpmdcckapddchaaGreatMi
/- merged by wip/merge.py from: TySort TyTable ElMk ElTop ElWake Law7List ElSorts ElSorts2 ElSorts3 ElSorts4 RTyOp Rd1 Rd2 -/
set_option maxRecDepth 100000
set_option maxHeartbeats 51200000
namespace Go.Proofs.YtpmdcckapddchaaGreat
namespace El
open Go.RowKit Dt Sg
theorem arity_three {op:Int} {p:Int × Int} (h:arityN op=some p):0<=p.1/\p.2<=3:=by
 unfold arityN at h
 repeat' split at h
 all_goals first | (cases h;exact⟨by decide,by decide⟩) | cases h
theorem stands_len {n:Node} {a:Int} (h:standsN n a=true):0<=n.len/\n.len<=3:=by
 unfold standsN at h
 cases ho:arityN n.op with
 | none=>rw [ho] at h;cases h
 | some p =>
  rw [ho] at h;simp only [Bool.and_eq_true,decide_eq_true_eq] at h;have:=arity_three ho;have:=h.1.1.1.1.1.1.1
  omega
theorem stands_arg {n:Node} {a:Int} (h:standsN n a=true) {i:Nat} (hi:(i:Int) < n.len):0<=n.arg i/\n.arg i < a:=by
 have hl:=stands_len h;unfold standsN at h
 cases ho:arityN n.op with
 | none=>rw [ho] at h;cases h
 | some p =>
  rw [ho] at h;simp only [Bool.and_eq_true] at h;have h0:=h.1.1.1.1.1.2;have h1:=h.1.1.1.1.2;have h2:=h.1.1.1.2;have hc:i=0\/i=1\/i=2:=by omega
  rcases hc with rfl | rfl | rfl
  ·unfold argOkB at h0;rw [if_pos hi] at h0;exact of_decide_eq_true h0
  ·unfold argOkB at h1;rw [if_pos hi] at h1;exact of_decide_eq_true h1
  ·unfold argOkB at h2;rw [if_pos hi] at h2;exact of_decide_eq_true h2
theorem NodeAt.arg' {w:World} {b o:Nat} {n:Node} (h:NodeAt w b o n) {i:Nat} (hi:i < 3):w.cell? ⟨b,o+2+i,none⟩=some (.int .i64 (n.arg i)):=by
 obtain ⟨hl,h0,h1,h2,h3,h4,h5⟩:=h;have hc:i=0\/i=1\/i=2:=by omega
 rcases hc with rfl | rfl | rfl
 ·exact h2
 ·exact h3
 ·exact h4
def sortsTo (t:List Node) (n:Node) (k:Nat):List Int:=(List.range k).map fun i=>(t.getD (n.arg i).toNat nodeTrue).sort
theorem sortsTo_len (t:List Node) (n:Node) (k:Nat):(sortsTo t n k).length=k:=by unfold sortsTo;simp
theorem sortsTo_succ (t:List Node) (n:Node) (k:Nat):sortsTo t n (k+1)=sortsTo t n k ++ [(t.getD (n.arg k).toNat nodeTrue).sort]:=by unfold sortsTo;rw [List.range_succ,List.map_append];rfl
def sortProg (g:Sig) (t:List Node) (n:Node):Int × Int:=if n.op=13 then appProg g n.fn (sortsTo t n n.len.toNat) else opProg n.op (sortsTo t n n.len.toNat)
def SortPost (g:Sig) (t:List Node) (n:Node) (w:World) (e:Ending) (w':World):Prop:=e=.returned (.tuple #[.int .i64 (sortProg g t n).1,.bool (decide ((sortProg g t n).2=0))])/\Below w.heap.size w w'
theorem run_make3 (W:World):(Instr.makeSlice 111 (.int .i64 0) (.int .i64 3)).run Tryz.prog W=.ok (.slice (some ⟨W.heap.size,0,none⟩) 0 3) (W.alloc (.cells #[.int .i64 0,.int .i64 0,.int .i64 0] 3)):=by kernel_rfl
theorem owns_made (w:World) (vs:Array Value) (e:TypeId) (n:Nat) (hn:vs.size=n) (hm:n<=maxLen):(w.alloc (.cells vs e)).ownsRow w.heap.size e 1 (.slice (some ⟨w.heap.size,0,none⟩) 0 n) 0 [] :=
 ⟨by simp,.inr ⟨w.heap.size,n,vs,rfl,nlq,by show(w.heap.push _)[w.heap.size]?=_;exact Array.getElem?_push_size,Nat.zero_le _,hm,by rw [hn,Nat.mul_one],by simp⟩⟩
theorem tysort_any {w:World} {A1 A2 A3:Option Addr} {c1 c2 c3:Nat} {g:Sig} (h:SigAt w A1 c1 A2 c2 A3 c3 g) (hg:checkE g=0) (hl1:g.sorts.length<=1000000) (hl2:g.funs.length<=1000000) (hl3:g.macros.length<=1000000) {A:Option Addr} {t:List Node} (c:Nat) (ht:Lies 8 NodeR w A t) {n:Node} (hi:NodeI n) {a:Int} (hs:standsN n a=true) (ha:a<=t.length) :
  Calls Tryz.prog 44 #[.agg #[.slice A1 g.sorts.length c1,.slice A2 g.funs.length c2,.slice A3 g.macros.length c3],.agg #[.slice A t.length c],nodeV n] w (SortPost g t n w):=by
 obtain ⟨i0,hi0,z0,z1,z2⟩:=info_parts info_int;have I0:=kp hi0;have I1:=kp z0;have I2:=kp z1;have I3:=kp z2;clear hi0 z0 z1 z2;obtain ⟨hlen0,hlen3⟩:=stands_len hs
 have HP:=kp (show ∀ (x y:Int) (b:Bool) w',sortProg g t n=(x,y)->decide (y=0)=b->Below w.heap.size w w'->SortPost g t n w (.returned (.tuple #[.int .i64 x,.bool b])) w' from fun x y b w' h1 h2 h3=>by
  unfold SortPost;rw [h1];exact⟨by rw [← h2],h3⟩)
 have HArg:=kp (fun(i:Nat) (h:(i:Int) < n.len)=>stands_arg hs h);have HT:=kp ht;have HS:=kp h;have HI:=kp hi;have HA:=kp (show sortProg g t n=if n.op=13 then appProg g n.fn (sortsTo t n n.len.toNat) else opProg n.op (sortsTo t n n.len.toNat) from rfl);have HApp:=kp (fun W (hW:Below w.heap.size w W) A l c hl hn=>tyapp_any (h.on hW) hg hl1 hl2 hl3 (A:=A) (l:=l) c n.fn hi.fn hl hn);have HOp:=kp (fun W A l c hl hn hc hcm=>tyop_any (w:=W) (A:=A) (l:=l) (c:=c) n.op hi.op hl hn hc hcm);clear hs h hg ht hi;obtain ⟨m,hm⟩:∃ m:Nat,n.len=(m:Int):=⟨n.len.toNat,by omega⟩;rw [hm] at HA HArg hlen0 hlen3;rw [Int.toNat_natCast] at HA;have hm3:m<=3:=by omega
 have HMk:=run_make3;unfold nodeV;rw [hm];generalize SortPost g t n w=PP at *;generalize sortProg g t n=res at *;have S1:=kp (Bk.new w (.cells #[.slice A1 g.sorts.length c1,.slice A2 g.funs.length c2,.slice A3 g.macros.length c3] 26));have S2:=kp (Bk.keep (Bk.keep S1.out (.cells #[.slice A t.length c] 38)) (.cells #[.int .i8 n.op,.int .i8 (m:Int),.int .i64 n.a0,.int .i64 n.a1,.int .i64 n.a2,.int .i64 n.sort,.int .i64 n.fn,.int .i64 n.n] 55));have T1:=kp (Bk.new (w.alloc (.cells #[.slice A1 g.sorts.length c1,.slice A2 g.funs.length c2,.slice A3 g.macros.length c3] 26)) (.cells #[.slice A t.length c] 38));have T2:=kp (Bk.keep T1.out (.cells #[.int .i8 n.op,.int .i8 (m:Int),.int .i64 n.a0,.int .i64 n.a1,.int .i64 n.a2,.int .i64 n.sort,.int .i64 n.fn,.int .i64 n.n] 55));have N2:=kp (Bk.new ((w.alloc (.cells #[.slice A1 g.sorts.length c1,.slice A2 g.funs.length c2,.slice A3 g.macros.length c3] 26)).alloc (.cells #[.slice A t.length c] 38)) (.cells #[.int .i8 n.op,.int .i8 (m:Int),.int .i64 n.a0,.int .i64 n.a1,.int .i64 n.a2,.int .i64 n.sort,.int .i64 n.fn,.int .i64 n.n] 55));have B2:=kp ((((brq w).alloc nlq (.cells #[.slice A1 g.sorts.length c1,.slice A2 g.funs.length c2,.slice A3 g.macros.length c3] 26)).alloc (by simp) (.cells #[.slice A t.length c] 38)).alloc (by simp;omega) (.cells #[.int .i8 n.op,.int .i8 (m:Int),.int .i64 n.a0,.int .i64 n.a1,.int .i64 n.a2,.int .i64 n.sort,.int .i64 n.fn,.int .i64 n.n] 55))
 rw [show(w.alloc (.cells #[.slice A1 g.sorts.length c1,.slice A2 g.funs.length c2,.slice A3 g.macros.length c3] 26)).heap.size=w.heap.size+1 by simp] at T2;rw [show((w.alloc (.cells #[.slice A1 g.sorts.length c1,.slice A2 g.funs.length c2,.slice A3 g.macros.length c3] 26)).alloc (.cells #[.slice A t.length c] 38)).heap.size=w.heap.size+2 by simp] at N2;have Z2:=kp (show(((w.alloc (.cells #[.slice A1 g.sorts.length c1,.slice A2 g.funs.length c2,.slice A3 g.macros.length c3] 26)).alloc (.cells #[.slice A t.length c] 38)).alloc (.cells #[.int .i8 n.op,.int .i8 (m:Int),.int .i64 n.a0,.int .i64 n.a1,.int .i64 n.a2,.int .i64 n.sort,.int .i64 n.fn,.int .i64 n.n] 55)).heap.size=w.heap.size+3 by simp);clear S1 T1
 go_enter Tryz.func44,Tryz.ntmps44
 go_upto_region 1 with fail
 generalize ((w.alloc (.cells #[.slice A1 g.sorts.length c1,.slice A2 g.funs.length c2,.slice A3 g.macros.length c3] 26)).alloc (.cells #[.slice A t.length c] 38)).alloc (.cells #[.int .i8 n.op,.int .i8 (m:Int),.int .i64 n.a0,.int .i64 n.a1,.int .i64 n.a2,.int .i64 n.sort,.int .i64 n.fn,.int .i64 n.n] 55)=w2 at *;go_upto_region 2 with fail
 have S3:=kp (Bk.keep S2.out (.cells #[.int .i64 0,.int .i64 0,.int .i64 0] 3));have T3:=kp (Bk.keep T2.out (.cells #[.int .i64 0,.int .i64 0,.int .i64 0] 3));have N3:=kp (Bk.keep N2.out (.cells #[.int .i64 0,.int .i64 0,.int .i64 0] 3));have B3:=kp (B2.out.alloc (by rw [Z2.out];omega) (.cells #[.int .i64 0,.int .i64 0,.int .i64 0] 3));have O3:=kp (show World.ownsRow (w2.alloc (.cells #[.int .i64 0,.int .i64 0,.int .i64 0] 3)) (w.heap.size+3) 3 1 (.slice (some ⟨w.heap.size+3,0,none⟩) 0 3) 0 [] by have h:=owns_made w2 #[.int .i64 0,.int .i64 0,.int .i64 0] 3 3 rfl (by unfold maxLen;omega);rwa [Z2.out] at h);have Z3:=kp (show w.heap.size+4<=(w2.alloc (.cells #[.int .i64 0,.int .i64 0,.int .i64 0] 3)).heap.size by simp [Z2.out]);try rw [Z2.out]
 clear S2 T2 N2 B2;generalize w2.alloc (.cells #[.int .i64 0,.int .i64 0,.int .i64 0] 3)=w3 at *;clear Z2;obtain ⟨q0,q1,q2,q3,q4,q5,q6,q7,qf⟩:=Bk.c8 N3.out;have hm128:(m:Int) < 128:=by omega
 go_wp2_with fail
 go_loopw [8,19] (fun v' i' wr=>∃ k:Nat,k<=m/\i'=.int .i64 k/\v'=.slice (some ⟨w.heap.size+3,0,none⟩) k 3/\wr.ownsRow (w.heap.size+3) 3 1 (.slice (some ⟨w.heap.size+3,0,none⟩) k 3) k ((sortsTo t n k).map (Value.int .i64))/\Below (w.heap.size+3) w3 wr) (fun _ i' _=>m - (intOf i').toNat)
 case atStart=>exact⟨0,Nat.zero_le _,rfl,rfl,O3.out,Below.refl _ _⟩
 case round =>
  obtain ⟨k,hk,rfl,rfl,ho,hb⟩:=hrel;have HO:=kp ho;have HB:=kp hb;have HBw:=kp (B3.out.trans (hb.mono (by omega)));have NR:=kp (Bk.on' N3.out hb (by omega));have TR:=kp (Bk.on' T3.out hb (by omega));have SR:=kp (Bk.on' S3.out hb (by omega));clear ho hb q0 q1 q2 q3 q4 q5 q6 q7 qf
  by_cases hlt:k < m
  ·have hlt2:(k:Int) < (m:Int):=by omega
   have hk3:k < 3:=by omega
   have p1:=NodeAt.arg' (node_block (n:=⟨n.op,m,n.a0,n.a1,n.a2,n.sort,n.fn,n.n⟩) NR.out) hk3;rw [Nat.zero_add,show Node.arg ⟨n.op,m,n.a0,n.a1,n.a2,n.sort,n.fn,n.n⟩ k=n.arg k from rfl] at p1;have ha1:=HArg.out k hlt2;have HSs:=kp (sortsTo_succ t n k);generalize n.arg k=y at *;obtain ⟨j,rfl⟩:∃ j:Nat,y=(j:Int):=⟨y.toNat,by omega⟩;rw [Int.toNat_natCast] at HSs;have hj:j < t.length:=by omega
   obtain ⟨x,hx⟩:∃ x,t[j]?=some x:=⟨_,gqe hj⟩;rw [List.getD_eq_getElem?_getD,hx,Option.getD_some] at HSs;obtain ⟨b,o,hA,hxa,hxi⟩:=node_get (HT.out.on NodeR.lasts HBw.out) hx;subst hA;have HX:=kp hxa;have OA:=kp (show World.ownsRow (wr.alloc (.cells #[.int .i64 x.sort] 3)) (w.heap.size+3) 3 1 (.slice (some ⟨w.heap.size+3,0,none⟩) k 3) k ((sortsTo t n k).map (Value.int .i64)) from HO.out.alloc _)
   have NC:=kp (show ∀ (q:Nat) u,[Value.int .i64 x.sort][q]?=some u->(wr.alloc (.cells #[.int .i64 x.sort] 3)).cell? (Addr.add ⟨wr.heap.size,0,none⟩ q)=some u from fun q u hu=>by
    rw [Addr.add_lit,Nat.zero_add,World.cell?_alloc_mark];simpa using hu)
   have hj2:(j:Int) < (t.length:Int):=by omega
   obtain ⟨t0,tf⟩:=Bk.c1 TR.out;obtain ⟨_,_,_,_,_,_,q5,_,_⟩:=HX.out;clear hx hxa ha1
   go_wp2_with (at_builtin;refine wpList_append_fits _ rfl (.tmp 23) (.tmp 30) _ rfl (w.heap.size+3) 3 i0 1 Tryz.underlying111 I0.out I2.out (w.heap.size+3) k 3 ((sortsTo t n k).map (Value.int .i64)) rfl OA.out ⟨wr.heap.size,0,none⟩ 1 1 [.int .i64 x.sort] rfl rfl NC.out (by simp [Value.oneCell']) (by omega) ?_)
   intro w5 hown hgr;have HO5:=kp (show w5.ownsRow (w.heap.size+3) 3 1 (.slice (some ⟨w.heap.size+3,0,none⟩) (k+1) 3) (k+1) ((sortsTo t n (k+1)).map (Value.int .i64)) by rw [HSs.out,List.map_append];exact hown);have HB5:=kp ((HB.out.alloc (by have:=Z3.out;have:=HB.out.size;omega) (.cells #[.int .i64 x.sort] 3)).grown hgr (by have:=Z3.out;have:=HB.out.size;simp;omega) (fun j hj=>by cases hj;omega));clear hown hgr t0 tf q5 p1;go_wp2_with fail
   go_roundw
   case rel=>exact⟨k+1,by omega,by go_num,rfl,HO5.out,HB5.out⟩
   case measure=>simp [intOf];omega
  ·obtain rfl:k=m:=by omega
   have HLn:=kp (sortsTo_len t n k);have HCl:=kp (Cells.own HO.out);obtain ⟨q0,q1,q2,q3,q4,q5,q6,q7,qf⟩:=Bk.c8 NR.out;obtain ⟨s0,s1,s2,sf⟩:=Bk.c3 SR.out;generalize sortsTo t n k=l at *
   by_cases ho:n.op=13
   ·have hop:(n.op == 13)=true:=by rw [ho];rfl
    have HAp:=kp (HApp.out wr HBw.out _ l 3 HCl.out (by have:=HLn.out;omega));rw [HLn.out] at HAp;have HE:=kp (HA.out.trans (if_pos ho));unfold AppPost at HAp;generalize n.fn=fn at *;generalize n.op=op at *;clear ho;generalize appProg g fn l=r at *;obtain ⟨r1,r2⟩:=r;go_wp2_with fail
    refine HAp.out.mono ?_;rintro e w6 ⟨rfl,hb6⟩;have B6:=kp (HBw.out.trans (hb6.mono HBw.out.size));clear hb6;go_wp2_with fail
    exact HP.out _ _ _ _ HE.out rfl B6.out
   ·have hop:(n.op == 13)=false:=by rw [beq_eq_false_iff_ne];exact ho
    have HAp:=kp (HOp.out wr _ l 3 HCl.out (by have:=HLn.out;omega) (by have:=HLn.out;omega) (by unfold maxLen;omega));rw [HLn.out] at HAp;have HE:=kp (HA.out.trans (if_neg ho));unfold OpPost at HAp;generalize n.op=op at *;clear ho;generalize opProg op l=r at *;obtain ⟨r1,r2⟩:=r;go_wp2_with fail
    refine HAp.out.mono ?_;rintro e w6 ⟨rfl,hb6⟩;have B6:=kp (HBw.out.trans (hb6.mono HBw.out.size));clear hb6;go_wp2_with fail
    exact HP.out _ _ _ _ HE.out rfl B6.out
def sortedN (g:Sig) (t:List Node) (n:Node):Bool:=decide ((sortProg g t n).2=0) && decide ((sortProg g t n).1=n.sort)
def sortedB (g:Sig) (t:List Node):Bool:=t.all fun n=>sortedN g t n
def tableE (g:Sig) (t:List Node):Int:=if checkE g≠0\/checkTE t≠0 then 2 else if sortedB g t then 0 else 33
theorem sortedB_stop {g:Sig} {t:List Node} {k:Nat} {n:Node} (hn:t[k]?=some n) (h:sortedN g t n=false):sortedB g t=false:=by
 unfold sortedB;rw [List.all_eq_false];exact⟨n,mgq hn,by rw [h];simp⟩
theorem sortedB_all {g:Sig} {t:List Node} (h:∀ k n,k < t.length->t[k]?=some n->sortedN g t n=true):sortedB g t=true:=by
 unfold sortedB;rw [List.all_eq_true];intro x hx;obtain ⟨k,hk⟩:=List.getElem?_of_mem hx;exact h k x (gqs hk).1 hk
theorem check_stands {t:List Node} (h:checkTE t=0) {k:Nat} {n:Node} (hn:t[k]?=some n):standsN n k=true:=by
 unfold checkTE at h
 split at h
 ·rename_i hc
  unfold checkT at hc;simp only [Bool.and_eq_true] at hc;have h2:=hc.1.2;unfold standsTo at h2;rw [List.all_eq_true] at h2;have:=h2 k (List.mem_range.2 (gqs hn).1)
  rwa [hn] at this
 ·cases h
theorem tytable_any {w:World} {A1 A2 A3:Option Addr} {c1 c2 c3:Nat} {g:Sig} (h:SigAt w A1 c1 A2 c2 A3 c3 g) (hl1:g.sorts.length<=1000000) (hl2:g.funs.length<=1000000) (hl3:g.macros.length<=1000000) {A:Option Addr} {t:List Node} {c:Nat} (ht:Lies 8 NodeR w A t) (hn:t.length<=1000000) (hc:t.length<=c) (hcm:c<=maxLen) :
  Calls Tryz.prog 28 #[.agg #[.slice A1 g.sorts.length c1,.slice A2 g.funs.length c2,.slice A3 g.macros.length c3],.agg #[.slice A t.length c]] w fun e w'=>e=.returned (.int .i64 (tableE g t))/\Below w.heap.size w w':=by
 have HE:=kp (show tableE g t=if checkE g≠0\/checkTE t≠0 then 2 else if sortedB g t then 0 else 33 from rfl);have HT:=kp ht;have HS:=kp h;have HCs:=kp (fun W (hW:Below w.heap.size w W)=>check_any (h.on hW) (by omega) (by omega) (by omega));have HCt:=kp (fun W (hW:Below w.heap.size w W)=>tcheck_any (ht.on NodeR.lasts hW) hn hc hcm);have HSt:=kp (fun(hz:checkTE t=0) k n hk=>check_stands hz (k:=k) (n:=n) hk);have HSo:=kp (fun(hg:checkE g=0) W (hW:Below w.heap.size w W) n (hi:NodeI n) (a:Int) (hs:standsN n a=true) (ha:a<=t.length)=>tysort_any (h.on hW) hg hl1 hl2 hl3 c (ht.on NodeR.lasts hW) hi hs ha);have S1:=kp (Bk.keep (Bk.new w (.cells #[.slice A1 g.sorts.length c1,.slice A2 g.funs.length c2,.slice A3 g.macros.length c3] 26)) (.cells #[.slice A t.length c] 38));have T1:=kp (Bk.new (w.alloc (.cells #[.slice A1 g.sorts.length c1,.slice A2 g.funs.length c2,.slice A3 g.macros.length c3] 26)) (.cells #[.slice A t.length c] 38));rw [show(w.alloc (.cells #[.slice A1 g.sorts.length c1,.slice A2 g.funs.length c2,.slice A3 g.macros.length c3] 26)).heap.size=w.heap.size+1 by simp] at T1;have B1:=kp (((brq w).alloc nlq (.cells #[.slice A1 g.sorts.length c1,.slice A2 g.funs.length c2,.slice A3 g.macros.length c3] 26)).alloc (by simp) (.cells #[.slice A t.length c] 38));have Z1:=kp (show w.heap.size+2<=((w.alloc (.cells #[.slice A1 g.sorts.length c1,.slice A2 g.funs.length c2,.slice A3 g.macros.length c3] 26)).alloc (.cells #[.slice A t.length c] 38)).heap.size by simp)
 clear h ht;generalize tableE g t=res at *;have HAll:=kp (fun h=>sortedB_all (g:=g) (t:=t) h);have HStop:=kp (fun k n hn h=>sortedB_stop (g:=g) (t:=t) (k:=k) (n:=n) hn h);generalize sortedB g t=sb at *
 go_enter Tryz.func28,Tryz.ntmps28
 go_upto_region 1 with fail
 generalize (w.alloc (.cells #[.slice A1 g.sorts.length c1,.slice A2 g.funs.length c2,.slice A3 g.macros.length c3] 26)).alloc (.cells #[.slice A t.length c] 38)=w1 at *;obtain ⟨s0,s1,s2,sf⟩:=Bk.c3 S1.out;go_wp2_with fail
 refine(HCs.out w1 B1.out).mono ?_;rintro e w2 ⟨rfl,hb2⟩;have B2:=kp (B1.out.trans (hb2.mono B1.out.size));have S2:=kp (Bk.on S1.out hb2);have T2:=kp (Bk.on T1.out hb2);have Z2:=kp (Nat.le_trans Z1.out hb2.size);clear hb2 s0 s1 s2 sf S1 T1 Z1;generalize checkE g=cg at *
 by_cases hg:cg=0
 ·have hg':(cg != 0)=false:=by simp [hg]
  have HG:=kp hg;clear hg;obtain ⟨t0,tf⟩:=Bk.c1 T2.out;go_wp2_with fail
  refine(HCt.out w2 B2.out).mono ?_;rintro e w3 ⟨rfl,hb3⟩;have B3:=kp (B2.out.trans (hb3.mono B2.out.size));have S3:=kp (Bk.on S2.out hb3);have T3:=kp (Bk.on T2.out hb3);have Z3:=kp (Nat.le_trans Z2.out hb3.size);clear hb3 t0 tf S2 T2 Z2;generalize checkTE t=ct at *
  by_cases hct:ct=0
  ·have hct':(ct != 0)=false:=by simp [hct]
   replace HE:=kp (HE.out.trans (if_neg (by rw [HG.out,hct];simp)));have HSt2:=kp (HSt.out hct);clear hct HSt;obtain ⟨t0,tf⟩:=Bk.c1 T3.out;go_wp2_with fail
   go_loopw [20] (fun i' wr=>∃ k:Nat,k<=t.length/\i'=.int .i64 k/\Below (w.heap.size+2) w3 wr/\∀ j n,j < k->t[j]?=some n->sortedN g t n=true) (fun i' _=>t.length - (intOf i').toNat)
   case atStart=>exact⟨0,Nat.zero_le _,rfl,Below.refl _ _,fun j n hj=>by omega⟩
   case round =>
    obtain ⟨k,hk,rfl,hb,hto⟩:=hrel;have HTo:=kp hto;have HB:=kp hb;have HBw:=kp (B3.out.trans (hb.mono (by omega)));have SR:=kp (Bk.on' S3.out hb (by omega));have TR:=kp (Bk.on' T3.out hb (by omega));clear hb t0 tf hto
    by_cases hlt:k < t.length
    ·have hlt2:(k:Int) < (t.length:Int):=by omega
     obtain ⟨n,hn2⟩:∃ n,t[k]?=some n:=⟨_,gqe hlt⟩;obtain ⟨b,o,hA,hxa,hxi⟩:=node_get (HT.out.on NodeR.lasts HBw.out) hn2;subst hA;have HX:=kp hxa;have HSn:=kp (HSt2.out k n hn2);have HI:=kp hxi
     have HTk:=kp (show sortedN g t n=true->∀ j m,j < k+1->t[j]?=some m->sortedN g t m=true from fun he j m hj hm=>by
      by_cases h:j < k
      ·exact HTo.out j m h hm
      ·obtain rfl:j=k:=by omega
       rw [hn2] at hm;cases hm;exact he)
     have HNk:=kp (fun hf=>HStop.out k n hn2 hf);obtain ⟨_,x0,x1,x2,x3,x4,x5,x6,x7⟩:=hxa;have NB:=kp (Bk.new wr (.cells #[.int .i8 n.op,.int .i8 n.len,.int .i64 n.a0,.int .i64 n.a1,.int .i64 n.a2,.int .i64 n.sort,.int .i64 n.fn,.int .i64 n.n] 55));have SB:=kp (Bk.keep SR.out (.cells #[.int .i8 n.op,.int .i8 n.len,.int .i64 n.a0,.int .i64 n.a1,.int .i64 n.a2,.int .i64 n.sort,.int .i64 n.fn,.int .i64 n.n] 55));have TB:=kp (Bk.keep TR.out (.cells #[.int .i8 n.op,.int .i8 n.len,.int .i64 n.a0,.int .i64 n.a1,.int .i64 n.a2,.int .i64 n.sort,.int .i64 n.fn,.int .i64 n.n] 55));have HBn:=kp (HB.out.alloc (by have:=Z3.out;have:=HB.out.size;omega) (.cells #[.int .i8 n.op,.int .i8 n.len,.int .i64 n.a0,.int .i64 n.a1,.int .i64 n.a2,.int .i64 n.sort,.int .i64 n.fn,.int .i64 n.n] 55));have BN:=kp (HBw.out.alloc HBw.out.size (.cells #[.int .i8 n.op,.int .i8 n.len,.int .i64 n.a0,.int .i64 n.a1,.int .i64 n.a2,.int .i64 n.sort,.int .i64 n.fn,.int .i64 n.n] 55));have HSn2:=kp (fun W hW=>HSo.out HG.out W hW n HI.out k HSn.out (by omega));unfold nodeV SortPost at HSn2;have HSd:=kp (show sortedN g t n=(decide ((sortProg g t n).2=0) && decide ((sortProg g t n).1=n.sort)) from rfl);clear hn2 hxi;generalize sortedN g t n=sn at *;generalize sortProg g t n=r at *;obtain ⟨r1,r2⟩:=r;obtain ⟨t0,tf⟩:=Bk.c1 TR.out;go_upto_region 6 with fail
     have hwn:wr.heap.size < (wr.alloc (.cells #[.int .i8 n.op,.int .i8 n.len,.int .i64 n.a0,.int .i64 n.a1,.int .i64 n.a2,.int .i64 n.sort,.int .i64 n.fn,.int .i64 n.n] 55)).heap.size:=by simp
     generalize wr.alloc (.cells #[.int .i8 n.op,.int .i8 n.len,.int .i64 n.a0,.int .i64 n.a1,.int .i64 n.a2,.int .i64 n.sort,.int .i64 n.fn,.int .i64 n.n] 55)=wn at *;clear x0 x1 x2 x3 x4 x5 x6 x7 t0 tf;obtain ⟨t0,tf⟩:=Bk.c1 TB.out;obtain ⟨s0,s1,s2,sf⟩:=Bk.c3 SB.out;obtain ⟨x0,x1,x2,x3,x4,x5,x6,x7,xf⟩:=Bk.c8 NB.out;go_wp2_with fail
     refine(HSn2.out wn BN.out).mono ?_;rintro e w6 ⟨rfl,hb6⟩;have B6:=kp (BN.out.trans (hb6.mono BN.out.size));have H6:=kp (HBn.out.trans (hb6.mono (by have:=Z3.out;have:=HBn.out.size;omega)));have N6:=kp (Bk.on NB.out hb6);clear hb6 t0 tf s0 s1 s2 sf x0 x1 x2 x3 x4 x5 x6 x7 xf;obtain ⟨x0,x1,x2,x3,x4,x5,x6,x7,xf⟩:=Bk.c8 N6.out
     by_cases hr2:r2=0
     ·have hr2':decide (r2=0)=true:=by simp [hr2]
      by_cases hr1:r1=n.sort
      ·have hr1':(r1 != n.sort)=false:=by simp [hr1]
       have HQ:=kp (HTk.out (by rw [HSd.out,hr2,hr1];simp));clear hr2 hr1;go_wp2_with fail
       go_roundw
       case rel=>exact⟨k+1,by omega,by go_num,H6.out,HQ.out⟩
       case measure=>simp [intOf];omega
      ·have hr1':(r1 != n.sort)=true:=by simp [hr1]
       have HQ:=kp (HNk.out (by rw [HSd.out];simp [hr1]));clear hr2 hr1;rw [HQ.out] at HE;go_wp2_with fail
       go_ret;exact⟨ret_int HE.out.symm,B6.out⟩
     ·have hr2':decide (r2=0)=false:=by simp [hr2]
      have HQ:=kp (HNk.out (by rw [HSd.out];simp [hr2]));clear hr2;rw [HQ.out] at HE;go_wp2_with fail
      go_ret;exact⟨ret_int HE.out.symm,B6.out⟩
    ·have hke:k=t.length:=by omega
     have HQ:=kp (show sb=true from HAll.out fun j n hj hn=>HTo.out j n (by omega) hn);rw [HQ.out] at HE;clear hke;go_wp2_with fail
     go_ret;exact⟨ret_int HE.out.symm,HBw.out⟩
  ·have hct':(ct != 0)=true:=by simp [hct]
   replace HE:=kp (HE.out.trans (if_pos (.inr hct)));clear hct;go_wp2_with fail
   go_ret;exact⟨ret_int HE.out.symm,B3.out⟩
 ·have hg':(cg != 0)=true:=by simp [hg]
  replace HE:=kp (HE.out.trans (if_pos (.inl hg)));clear hg;go_wp2_with fail
  go_ret;exact⟨ret_int HE.out.symm,B2.out⟩
end El
namespace El
open Go.RowKit Go.Maps Dt Sg
structure Fix where
 W0:World
 mb:Nat
 A1:Option Addr
 c1:Nat
 A2:Option Addr
 c2:Nat
 A3:Option Addr
 c3:Nat
 c:Cx
structure FixOk (F:Fix):Prop where
 sig:SigAt F.W0 F.A1 F.c1 F.A2 F.c2 F.A3 F.c3 F.c.g
 ok:checkE F.c.g=0
 lt:F.W0.heap.size<=F.mb
 most:F.c.most<=1000000
 m64:I64 F.c.most
def onMb (F:Fix) (k:Nat):Prop:=k=F.mb
def Sta (F:Fix) (P:World->Prop) (w:World):Prop:=∀ W,Keeps (onMb F) w W->P W
theorem Sta.now {F:Fix} {P:World->Prop} {w:World} (h:Sta F P w):P w:=h w (Keeps.refl _ _)
theorem Sta.on {F:Fix} {P:World->Prop} {w w':World} (h:Sta F P w) (hk:Keeps (onMb F) w w'):Sta F P w':=fun W hW=>h W (hk.trans_same hW)
theorem Sta.imp {F:Fix} {P Q:World->Prop} {w:World} (h:Sta F P w) (hi:∀ W,P W->Q W):Sta F Q w:=fun W hW=>hi W (h W hW)
def TN (B:Nat) (t:List Node) (At:Option Addr) (t':List Node) (At':Option Addr):Prop:=(t'=t/\At'=At)\/(t'≠[]->∀ b o,At'=some ⟨b,o,none⟩->B<=b)
theorem TN.refl (B:Nat) (t:List Node) (At:Option Addr):TN B t At t At:=.inl ⟨rfl,rfl⟩
theorem TN.mono {B C:Nat} {t t':List Node} {At At':Option Addr} (h:TN B t At t' At') (hC:C<=B):TN C t At t' At':=h.imp_right fun h ht b o e=>Nat.le_trans hC (h ht b o e)
theorem TN.trans {B C:Nat} {t t' t2:List Node} {At At' A2:Option Addr} (h:TN B t At t' At') (k:TN C t' At' t2 A2) (hC:B<=C):TN B t At t2 A2:=by
 rcases k with⟨rfl,rfl⟩ | k
 ·exact h
 ·exact .inr fun ht b o e=>Nat.le_trans hC (k ht b o e)
def Far (k:Nat) (t:List Node) (At:Option Addr):Prop:=t≠[]->∀ b o,At=some ⟨b,o,none⟩->b≠k
theorem Far.of_tn {B k:Nat} {t t':List Node} {At At':Option Addr} (h:Far k t At) (hn:TN B t At t' At') (hk:k < B):Far k t' At':=by
 rcases hn with⟨rfl,rfl⟩ | hn
 ·exact h
 ·intro ht b o e hb;have:=hn ht b o e
  omega
theorem lies_block {w w':World} {At:Option Addr} {t:List Node} (h:Lies 8 NodeR w At t) (hs:w.heap.size<=w'.heap.size) (hb:t≠[]->∀ b o,At=some ⟨b,o,none⟩->w'.heap[b]?=w.heap[b]?):Lies 8 NodeR w' At t:=by
 rcases h with h | ⟨b,o,hA,hlt,hr⟩
 ·exact .inl h
 ·by_cases ht:t=[]
  ·exact .inl ht
  refine .inr ⟨b,o,hA,by omega,fun i x hx=>?_⟩;obtain ⟨vs,h1,h2,h3⟩:=hr i x hx;exact⟨vs,h1,fun j u hu=>(World.cell?_of_block (a:=⟨b,o+i * 8+j,none⟩) (hb ht b o hA)).trans (h2 j u hu),h3⟩
theorem lies_lt {w:World} {At:Option Addr} {t:List Node} (h:Lies 8 NodeR w At t) (ht:t≠[]):∀ b o,At=some ⟨b,o,none⟩->b < w.heap.size:=by
 rcases h with h | ⟨b,o,hA,hlt,hr⟩
 ·exact absurd h ht
 ·intro b' o' e;rw [hA] at e;obtain ⟨rfl,rfl⟩:=aiq e;exact hlt
structure Mk (F:Fix) (w:World) (known:Int) (st:St) (At:Option Addr) (ct:Nat):Prop where
 blk:w.heap[F.mb]?=some (.cells #[.slice F.A1 F.c.g.sorts.length F.c1,.slice F.A2 F.c.g.funs.length F.c2,.slice F.A3 F.c.g.macros.length F.c3,.slice At st.t.length ct,.int .i64 F.c.most,.bool F.c.build,.int .i64 known,.int .i64 st.calls,.int .i64 st.e] 67 (0,0))
 le:st.t.length<=ct
 lm:ct<=maxLen
 len:st.t.length<=1000000
 table:Lies 8 NodeR w At st.t
 far:Far F.mb st.t At
 calls:0<=st.calls/\st.calls<=301/\(st.e=0->st.calls<=300)
 below:Below F.W0.heap.size F.W0 w
def valV (v:V):Value:=.agg #[.int .i64 v.1,.int .i64 v.2]
def VI (v:V):Prop:=I64 v.1/\I64 v.2
theorem Mk.lt {F:Fix} {w:World} {known:Int} {st:St} {At:Option Addr} {ct:Nat} (h:Mk F w known st At ct):F.mb < w.heap.size:=lt_of_block h.blk
theorem Mk.new_far {F:Fix} {w:World} {known:Int} {st:St} {At:Option Addr} {ct:Nat} (h:Mk F w known st At ct) {k:Nat} (hk:w.heap.size<=k):Far k st.t At:=fun ht b o e=>by
 have:=lies_lt h.table ht b o e
 omega
theorem below_mb {F:Fix} (hF:FixOk F) {w w':World} (h:Below F.W0.heap.size F.W0 w) (hk:Keeps (onMb F) w w'):Below F.W0.heap.size F.W0 w' :=
 h.trans (hk.below (fun k hk=>by unfold onMb at hk;have:=hF.lt;omega) h.size)
theorem Mk.same {F:Fix} {w w':World} {known:Int} {st:St} {At:Option Addr} {ct:Nat} (h:Mk F w known st At ct) {S:Nat->Prop} (hk:Keeps S w w') (h1:¬ S F.mb) (h2:st.t≠[]->∀ b o,At=some ⟨b,o,none⟩->¬ S b) (h3:∀ k,S k->F.W0.heap.size<=k):Mk F w' known st At ct :=
 ⟨(hk.block F.mb h.lt h1).trans h.blk,h.le,h.lm,h.len,lies_block h.table hk.size (fun ht b o e=>hk.block b (lies_lt h.table ht b o e) (h2 ht b o e)),h.far,h.calls,h.below.trans (hk.below h3 h.below.size)⟩
theorem Mk.keep {F:Fix} {w w':World} {known:Int} {st:St} {At:Option Addr} {ct:Nat} (h:Mk F w known st At ct) (hb:Below w.heap.size w w'):Mk F w' known st At ct :=
 h.same (Keeps.of_below hb (fun _=>False)) id (fun _ _ _ _ h=>h) (fun _ h=>h.elim)
theorem Mk.other {F:Fix} (hF:FixOk F) {w:World} {known:Int} {st:St} {At:Option Addr} {ct:Nat} (h:Mk F w known st At ct) {k:Nat} (hk:F.mb < k) (hf:Far k st.t At) (j:Nat) (u:Value):Mk F (w.setCell ⟨k,j,none⟩ u) known st At ct :=
 h.same (S:=fun b=>b=k) ((Keeps.refl (fun b=>b=k) w).setCell (p:=⟨k,j,none⟩) (.inl rfl) u) (by omega) (fun ht b o e hb=>hf ht b o e hb) (fun b hb=>by have:=hF.lt;omega)
theorem Mk.set {F:Fix} (hF:FixOk F) {w:World} {known known':Int} {st st':St} {At:Option Addr} {ct:Nat} (h:Mk F w known st At ct) (j:Nat) (u:Value) (ht:st'.t=st.t)
  (hj:#[Value.slice F.A1 F.c.g.sorts.length F.c1,.slice F.A2 F.c.g.funs.length F.c2,.slice F.A3 F.c.g.macros.length F.c3,.slice At st.t.length ct,.int .i64 F.c.most,.bool F.c.build,.int .i64 known,.int .i64 st.calls,.int .i64 st.e].setIfInBounds j u=#[Value.slice F.A1 F.c.g.sorts.length F.c1,.slice F.A2 F.c.g.funs.length F.c2,.slice F.A3 F.c.g.macros.length F.c3,.slice At st'.t.length ct,.int .i64 F.c.most,.bool F.c.build,.int .i64 known',.int .i64 st'.calls,.int .i64 st'.e])
  (hc:0<=st'.calls/\st'.calls<=301/\(st'.e=0->st'.calls<=300)):Mk F (w.setCell ⟨F.mb,j,none⟩ u) known' st' At ct/\Keeps (onMb F) w (w.setCell ⟨F.mb,j,none⟩ u):=by
 have hk:Keeps (onMb F) w (w.setCell ⟨F.mb,j,none⟩ u):=(Keeps.refl _ w).setCell (.inl (show onMb F F.mb from rfl)) u;refine⟨⟨?_,by rw [ht];exact h.le,h.lm,by rw [ht];exact h.len,?_,by rw [ht];exact h.far,hc,below_mb hF h.below hk⟩,hk⟩
 ·have:=Bk.set_at h.blk j u;rw [hj] at this;exact this
 ·rw [ht];exact lies_block h.table hk.size (fun hn b o e=>hk.block b (lies_lt h.table hn b o e) (h.far hn b o e))
def MkPost (F:Fix) (known:Int) (w:World) (t:List Node) (At:Option Addr) (v:V) (st':St) (e:Ending) (w':World):Prop :=
 e=.returned (valV v)/\VI v/\Keeps (onMb F) w w'/\∃ A' c',Mk F w' known st' A' c'/\TN w.heap.size t At st'.t A'
theorem val_ret {f:Func} {w:World} {b k:Nat} {x y:Value} {act:Act} {R:Ending->World->Prop} (hf:f.results=#[.cell k 69]) (hb:w.heap[b]?=some (.cells #[x,y] 69 (0,0))) (h2:act.tmps[k]?=some (.pointer (some ⟨b,0,none⟩))) (hd:act.defers=[]) (hR:R (.returned (.agg #[x,y])) w) :
  bodyPost Tryz.prog f R .ret act w:=by
 obtain ⟨y0,y1,_⟩:=Bk.c2 hb;refine bodyPost_ret (v:=.agg #[x,y]) ?_ hd hR;simp [results,hf,go_sem,y0,y1,h2]
theorem mk_end {F:Fix} (hF:FixOk F) {f:Func} {k rb:Nat} {w W:World} {known:Int} {t:List Node} {At:Option Addr} {v:V} {st':St} {A':Option Addr} {c':Nat} {act:Act} {r0 r1:Value}
  (hf:f.results=#[.cell k 69]) (hm:Mk F W known st' A' c') (hw:F.mb < w.heap.size) (hk:Keeps (onMb F) w W) (hn:TN w.heap.size t At st'.t A') (hrb:w.heap.size<=rb) (hr:Far rb st'.t A') (hb:W.heap[rb]?=some (.cells #[r0,r1] 69 (0,0)))
  (h2:act.tmps[k]?=some (.pointer (some ⟨rb,0,none⟩))) (hd:act.defers=[]) (hv:VI v) :
  bodyPost Tryz.prog f (MkPost F known w t At v st') .ret act ((W.setCell ⟨rb,0,none⟩ (.int .i64 v.1)).setCell ⟨rb,1,none⟩ (.int .i64 v.2)):=by
 refine val_ret hf (b:=rb) (x:=.int .i64 v.1) (y:=.int .i64 v.2) (Bk.set_at (Bk.set_at hb 0 _) 1 _) h2 hd ?_;exact⟨rfl,hv,(hk.setCell (p:=⟨rb,0,none⟩) (.inr hrb) _).setCell (p:=⟨rb,1,none⟩) (.inr hrb) _,A',c',(hm.other hF (by omega) hr 0 _).other hF (by omega) hr 1 _,hn⟩
theorem v0_VI:VI v0:=⟨by show I64 0;unfold I64;omega,by show I64 0;unfold I64;omega⟩
theorem fail_any {F:Fix} (hF:FixOk F) {w:World} {known:Int} {st:St} {At:Option Addr} {ct:Nat} (hm:Mk F w known st At ct) (e:Int) (he:e≠0) :
  Calls Tryz.prog 49 #[.pointer (some ⟨F.mb,0,none⟩),.int .i64 e] w (MkPost F known w st.t At v0 (failS e st)):=by
 have HM:=kp (hm.keep ((brq w).alloc nlq (.cells #[.int .i64 0,.int .i64 0] 69)));have RB:=kp (Bk.new w (.cells #[.int .i64 0,.int .i64 0] 69));have hlt:=hm.lt;have HFr:=kp (hm.new_far nlq);have HS:=kp (show failS e st=if st.e=0 then { st with e:=e } else st from rfl);have HK:=kp ((Keeps.refl (onMb F) w).alloc (.cells #[.int .i64 0,.int .i64 0] 69));clear hm;generalize failS e st=st' at *
 go_enter Tryz.func49,Tryz.ntmps49
 go_upto_region 1 with fail
 generalize w.alloc (.cells #[.int .i64 0,.int .i64 0] 69)=w1 at *;obtain ⟨m0,m1,m2,m3,m4,m5,m6,m7,m8,mf⟩:=Bk.c9 HM.out.blk;obtain ⟨r0,r1,rf⟩:=Bk.c2 RB.out
 by_cases he0:st.e=0
 ·have he1:(st.e == 0)=true:=by simp [he0]
  replace HS:=kp (HS.out.trans (if_pos he0));have hset:=kp (Mk.set hF HM.out (known':=known) (st':=st') 8 (.int .i64 e) (by rw [HS.out]) (by rw [HS.out];rfl) (by rw [HS.out];have:=HM.out.calls;exact⟨this.1,this.2.1,fun h=>absurd h he⟩));clear he0;go_wp2_with fail
  exact mk_end (v:=v0) hF Tryz.results49 hset.out.1 hlt (HK.out.trans_same hset.out.2) (by rw [HS.out];exact TN.refl _ _ _) nlq (by rw [HS.out];exact HFr.out) (Bk.apart RB.out (by show w.heap.size≠F.mb;omega) _) rfl rfl v0_VI
 ·have he1:(st.e == 0)=false:=by simp [he0]
  replace HS:=kp (HS.out.trans (if_neg he0));clear he0;go_wp2_with fail
  exact mk_end (v:=v0) hF Tryz.results49 (by rw [HS.out];exact HM.out) hlt HK.out (by rw [HS.out];exact TN.refl _ _ _) nlq (by rw [HS.out];exact HFr.out) RB.out rfl rfl v0_VI
end El
namespace El
open Go.RowKit Dt Sg
def st0 (t:List Node):St:=⟨t,0,0⟩
def sortP (g:Sig) (env:Env) (x:Sexp):V × St:=termP ⟨g,0,false⟩ g.macros.length x env (st0 [])
def sortO (g:Sig) (env:Env) (x:Sexp):Int × Int :=
 if checkE g≠0\/x.may=false then(0,2)
 else if(sortP g env x).2.e=0 then((sortP g env x).1.1,0) else(0,(sortP g env x).2.e)
def envOf (vars:List Param):Env:=(vars.map fun p=>(p.name,(p.sort,(0:Int)))).reverse
def fitsO (g:Sig) (m:Macro):Int :=
 let s:=sortO g (envOf m.params) m.body
 if s.2=0/\s.1≠m.res then 33 else s.2
def makeP (g:Sig) (most:Int) (x:Sexp) (t:List Node):V × St:=termP ⟨g,most,true⟩ g.macros.length x [] (st0 t)
def termO (g:Sig) (t:List Node) (x:Sexp) (most:Int):List Node × Int × Int :=
 if tableE g t≠0 then([],0,2)
 else if(sortO g [] x).2≠0 then([],0,(sortO g [] x).2)
 else if(makeP g most x t).2.e≠0 then([],0,(makeP g most x t).2.e)
 else((makeP g most x t).2.t,(makeP g most x t).1.2,0)
def symX (s:ByteArray):Sexp:=.mk 0 s []
inductive RdAll:List UInt8->List Sexp->List UInt8->Prop
 | nil {l rest:List UInt8} (h:nextL (skipL false l)=.tok 1 [] rest):RdAll l [] rest
 | cons {l m rest:List UInt8} {x:Sexp} {xs:List Sexp} (hc:∀ t q,nextL (skipL false l)≠.tok 1 t q) (hx:Rd l x m) (hr:RdAll m xs rest):RdAll l (x :: xs) rest
theorem RdAll.places {l rest:List UInt8} {xs:List Sexp} (h:RdAll l xs rest):∃ f:Nat->List UInt8,f 0=l/\(∀ i,i < xs.length->∀ t q,nextL (skipL false (f i))≠.tok 1 t q)/\(∀ i x,xs[i]?=some x->Rd (f i) x (f (i+1)))/\nextL (skipL false (f xs.length))=.tok 1 [] rest:=by
 induction h with
 | @nil l rest h=>exact⟨fun _=>l,rfl,fun i hi=>by simp at hi,fun i x hx=>by simp at hx,h⟩
 | @cons l m rest x xs hc hx hr ih =>
  obtain ⟨f,h0,h1,h2,h3⟩:=ih;refine⟨fun i=>match i with | 0=>l | j+1=>f j,rfl,fun i hi=>?_,fun i y hy=>?_,h3⟩
  ·cases i with
   | zero=>exact hc
   | succ j=>exact h1 j (by simp at hi;omega)
  ·cases i with
   | zero =>
    obtain rfl:x=y:=by simpa using hy
    show Rd l x (f 0);rw [h0];exact hx
   | succ j=>exact h2 j y (by simpa using hy)
theorem Rd.of_all {l r rest:List UInt8} {xs:List Sexp} (h:nextL (skipL false l)=.tok 0 [] r) (ha:RdAll r xs rest):Rd l (.mk 3 { data:=#[] } xs) rest:=by
 obtain ⟨f,h0,h1,h2,h3⟩:=ha.places;exact .list f h h0 h1 h2 h3
def bX:ByteArray:={ data:=#[120] }
def bY:ByteArray:={ data:=#[121] }
def bF:ByteArray:={ data:=#[102] }
def bP:ByteArray:={ data:=#[112] }
def bS:ByteArray:={ data:=#[115] }
def b3:ByteArray:={ data:=#[51] }
def smallG:Sig:=⟨[{ data:=#[83] }],[⟨bX,0,0,0,0,1⟩,⟨bY,0,0,0,0,1⟩,⟨bF,1,1,0,0,1⟩,⟨bP,0,0,0,0,0⟩,⟨bS,0,0,0,0,2⟩],[]⟩
def txA:ByteArray:={ data:=#[40,60,61,32,40,45,32,120,32,121,41,32,51,41] }
def txB:ByteArray:={ data:=#[40,100,105,115,116,105,110,99,116,32,120,32,121,41] }
def txC:ByteArray:={ data:=#[40,43,32,120,32,121,41] }
def xA:Sexp:=.mk 3 { data:=#[] } [symX sLe,.mk 3 { data:=#[] } [symX sMinus,symX bX,symX bY],.mk 1 b3 []]
def xB:Sexp:=.mk 3 { data:=#[] } [symX sDistinct,symX bX,symX bY]
def xC:Sexp:=.mk 3 { data:=#[] } [symX sPlus,symX bX,symX bY]
theorem not_close {l:List UInt8} {k:Int} {t r:List UInt8} (h:nextL (skipL false l)=.tok k t r) (hk:k≠1):∀ t q,nextL (skipL false l)≠.tok 1 t q:=by
 intro t q e;rw [h] at e;simp only [Tk.tok.injEq] at e;exact hk e.1
theorem RdAll.sym {l t r rest:List UInt8} {s:ByteArray} {xs:List Sexp} (h:nextL (skipL false l)=.tok 2 t r) (hs:Lx.bs s=t) (hr:RdAll r xs rest):RdAll l (symX s :: xs) rest:=.cons (not_close h (by decide)) (.name h hs) hr
theorem rdA:Rd (from_ txA 0) xA []:=by
 refine Rd.of_all (r:=[60,61,32,40,45,32,120,32,121,41,32,51,41]) (by kernel_rfl) ?_;refine RdAll.sym (t:=[60,61]) (r:=[32,40,45,32,120,32,121,41,32,51,41]) (by kernel_rfl) (by kernel_rfl) ?_;refine .cons (m:=[32,51,41]) (not_close (k:=0) (t:=[]) (r:=[45,32,120,32,121,41,32,51,41]) (by kernel_rfl) (by decide)) ?_ ?_
 ·refine Rd.of_all (r:=[45,32,120,32,121,41,32,51,41]) (by kernel_rfl) ?_;refine RdAll.sym (t:=[45]) (r:=[32,120,32,121,41,32,51,41]) (by kernel_rfl) (by kernel_rfl) ?_;refine RdAll.sym (t:=[120]) (r:=[32,121,41,32,51,41]) (by kernel_rfl) (by kernel_rfl) ?_;refine RdAll.sym (t:=[121]) (r:=[41,32,51,41]) (by kernel_rfl) (by kernel_rfl) ?_;exact .nil (by kernel_rfl)
 ·refine .cons (m:=[41]) (not_close (k:=3) (t:=[51]) (r:=[41]) (by kernel_rfl) (by decide)) (.num (t:=[51]) (by kernel_rfl) (by kernel_rfl)) ?_;exact .nil (by kernel_rfl)
theorem rdB:Rd (from_ txB 0) xB []:=by
 refine Rd.of_all (r:=[100,105,115,116,105,110,99,116,32,120,32,121,41]) (by kernel_rfl) ?_;refine RdAll.sym (t:=[100,105,115,116,105,110,99,116]) (r:=[32,120,32,121,41]) (by kernel_rfl) (by kernel_rfl) ?_;refine RdAll.sym (t:=[120]) (r:=[32,121,41]) (by kernel_rfl) (by kernel_rfl) ?_;refine RdAll.sym (t:=[121]) (r:=[41]) (by kernel_rfl) (by kernel_rfl) ?_;exact .nil (by kernel_rfl)
theorem rdC:Rd (from_ txC 0) xC []:=by
 refine Rd.of_all (r:=[43,32,120,32,121,41]) (by kernel_rfl) ?_;refine RdAll.sym (t:=[43]) (r:=[32,120,32,121,41]) (by kernel_rfl) (by kernel_rfl) ?_;refine RdAll.sym (t:=[120]) (r:=[32,121,41]) (by kernel_rfl) (by kernel_rfl) ?_;refine RdAll.sym (t:=[121]) (r:=[41]) (by kernel_rfl) (by kernel_rfl) ?_;exact .nil (by kernel_rfl)
def ansB (o:List Node × Int × Int) (p:Node->Bool):Bool:=decide (o.2.2=0) && decide (0<=o.2.1) && (match o.1[o.2.1.toNat]? with | some n=>p n | none=>false)
theorem ansB_out {o:List Node × Int × Int} {p:Node->Bool} (h:ansB o p=true):o.2.2=0/\∃ k:Nat,o.2.1=k/\∃ n,o.1[k]?=some n/\p n=true:=by
 unfold ansB at h;simp only [Bool.and_eq_true,decide_eq_true_eq] at h;obtain ⟨⟨h1,h2⟩,h3⟩:=h;obtain ⟨k,hk⟩:=Int.eq_ofNat_of_zero_le h2;rw [hk] at h3;refine⟨h1,k,hk,?_⟩
 cases hn:o.1[k]? with
 | none=>simp [hn] at h3
 | some n=>exact⟨n,rfl,by simpa [hn] using h3⟩
theorem ansA:ansB (termO smallG newT xA 200) (fun n=>decide (n.op=12) && decide (n.n=3))=true:=by decide +kernel
theorem ansBd:ansB (termO smallG newT xB 200) (fun n=>decide (n.op=1))=true:=by decide +kernel
theorem ansC:(termO smallG newT xC 200).2.2=34:=by decide +kernel
theorem lies_blk {α β:Type} {n:Nat} {R:World->List Value->β->Prop} {w:World} {b:Nat} {t:TypeId} {fr:Nat × Nat} {val:α->List Value} {f:α->β} {L:List Value} (ys:List α) (h:w.heap[b]?=some (.cells L.toArray t fr)) (hL:flatV val ys <+: L) (hv:∀ y,(val y).length=n) (hR:∀ y ∈ ys,R w (val y) (f y)) :
  Lies n R w (some ⟨b,0,none⟩) (ys.map f):=by
 refine .inr ⟨b,0,rfl,lt_of_block h,fun i x hx=>?_⟩;rw [List.getElem?_map] at hx
 cases hy:ys[i]? with
 | none=>rw [hy] at hx;cases hx
 | some y =>
  rw [hy] at hx;obtain rfl:f y=x:=by simpa using hx
  refine⟨val y,hv y,fun j u hu=>?_,hR y (mgq hy)⟩;have h1:=flatV_at hv ys i y hy j u hu;obtain ⟨r,hr⟩:=hL;rw [Nat.zero_add,cell_of_row w b (i * n+j) L.toArray t fr h,List.getElem?_toArray,← hr,List.getElem?_append_left (gqs h1).1];exact h1
theorem sexp_ret {f:Func} {w:World} {b:Nat} {r0 r1 r2:Value} {act:Act} {t:TypeId} {R:Ending->World->Prop} (hf:f.results=#[.cell 8 30]) (hb:w.heap[b]?=some (.cells #[r0,r1,r2] t (0,0))) (h2:act.tmps[8]?=some (.pointer (some ⟨b,0,none⟩))) (hd:act.defers=[]) (hR:R (.returned (.agg #[r0,r1,r2])) w) :
  bodyPost Tryz.prog f R .ret act w:=by
 obtain ⟨y0,y1,y2,_⟩:=Bk.c3 hb;refine bodyPost_ret (v:=.agg #[r0,r1,r2]) ?_ hd hR;simp [results,hf,go_sem,y0,y1,y2,h2]
def ListPost (w:World) (l:List SxB) (n:Nat) (e:Ending) (w':World):Prop :=
 (∃ b,e=.returned (.agg #[.int .i8 3,.string { data:=#[] },.slice (some ⟨b,0,none⟩) n 3])/\w.heap.size<=b/\w'.heap[b]?=some (.cells (flatV sxV l).toArray 30 (0,0)))/\Below w.heap.size w w'
theorem list_any (w:World) (x y z:SxB) (n:Nat) (hn:n<=3) :
  Calls Tryz.prog 10 #[.agg (sxV x).toArray,.agg (sxV y).toArray,.agg (sxV z).toArray,.int .i64 n] w (ListPost w [x,y,z] n):=by
 obtain ⟨x,A,a⟩:=x;obtain ⟨y,B,b⟩:=y;obtain ⟨z,C,c⟩:=z;simp only [sxV];have B4:=kp (((((brq w).alloc nlq (.cells #[.int .i8 x.kind,.string x.text,.slice A x.l.length a] 30)).alloc (by simp) (.cells #[.int .i8 y.kind,.string y.text,.slice B y.l.length b] 30)).alloc (by simp;omega) (.cells #[.int .i8 z.kind,.string z.text,.slice C z.l.length c] 30)).alloc (by simp;omega) (.cells #[.int .i8 0,.string { data:=#[] },.slice none 0 0] 30));have X4:=kp (Bk.keep (Bk.keep (Bk.keep (Bk.new w (.cells #[.int .i8 x.kind,.string x.text,.slice A x.l.length a] 30)) (.cells #[.int .i8 y.kind,.string y.text,.slice B y.l.length b] 30)) (.cells #[.int .i8 z.kind,.string z.text,.slice C z.l.length c] 30)) (.cells #[.int .i8 0,.string { data:=#[] },.slice none 0 0] 30))
 have Y4:=kp (Bk.keep (Bk.keep (show((w.alloc (.cells #[.int .i8 x.kind,.string x.text,.slice A x.l.length a] 30)).alloc (.cells #[.int .i8 y.kind,.string y.text,.slice B y.l.length b] 30)).heap[w.heap.size+1]?=some (.cells #[.int .i8 y.kind,.string y.text,.slice B y.l.length b] 30 (0,0)) by
  have h:=Bk.new (w.alloc (.cells #[.int .i8 x.kind,.string x.text,.slice A x.l.length a] 30)) (.cells #[.int .i8 y.kind,.string y.text,.slice B y.l.length b] 30);simpa using h) (.cells #[.int .i8 z.kind,.string z.text,.slice C z.l.length c] 30)) (.cells #[.int .i8 0,.string { data:=#[] },.slice none 0 0] 30))
 have Z4:=kp (Bk.keep (show(((w.alloc (.cells #[.int .i8 x.kind,.string x.text,.slice A x.l.length a] 30)).alloc (.cells #[.int .i8 y.kind,.string y.text,.slice B y.l.length b] 30)).alloc (.cells #[.int .i8 z.kind,.string z.text,.slice C z.l.length c] 30)).heap[w.heap.size+2]?=some (.cells #[.int .i8 z.kind,.string z.text,.slice C z.l.length c] 30 (0,0)) by
  have h:=Bk.new ((w.alloc (.cells #[.int .i8 x.kind,.string x.text,.slice A x.l.length a] 30)).alloc (.cells #[.int .i8 y.kind,.string y.text,.slice B y.l.length b] 30)) (.cells #[.int .i8 z.kind,.string z.text,.slice C z.l.length c] 30);simpa using h) (.cells #[.int .i8 0,.string { data:=#[] },.slice none 0 0] 30))
 have R4:=kp (show((((w.alloc (.cells #[.int .i8 x.kind,.string x.text,.slice A x.l.length a] 30)).alloc (.cells #[.int .i8 y.kind,.string y.text,.slice B y.l.length b] 30)).alloc (.cells #[.int .i8 z.kind,.string z.text,.slice C z.l.length c] 30)).alloc (.cells #[.int .i8 0,.string { data:=#[] },.slice none 0 0] 30)).heap[w.heap.size+3]?=some (.cells #[.int .i8 0,.string { data:=#[] },.slice none 0 0] 30 (0,0)) by
  have h:=Bk.new (((w.alloc (.cells #[.int .i8 x.kind,.string x.text,.slice A x.l.length a] 30)).alloc (.cells #[.int .i8 y.kind,.string y.text,.slice B y.l.length b] 30)).alloc (.cells #[.int .i8 z.kind,.string z.text,.slice C z.l.length c] 30)) (.cells #[.int .i8 0,.string { data:=#[] },.slice none 0 0] 30);simpa using h)
 have hn1:(n:Int)<=3:=by omega
 go_enter Tryz.func10,Tryz.ntmps10
 go_upto_region 1 with fail
 generalize (((w.alloc (.cells #[.int .i8 x.kind,.string x.text,.slice A x.l.length a] 30)).alloc (.cells #[.int .i8 y.kind,.string y.text,.slice B y.l.length b] 30)).alloc (.cells #[.int .i8 z.kind,.string z.text,.slice C z.l.length c] 30)).alloc (.cells #[.int .i8 0,.string { data:=#[] },.slice none 0 0] 30)=w4 at *;obtain ⟨x0,x1,x2,xf⟩:=Bk.c3 X4.out;obtain ⟨y0,y1,y2,yf⟩:=Bk.c3 Y4.out;obtain ⟨z0,z1,z2,zf⟩:=Bk.c3 Z4.out;have L5:=kp (Bk.new w4 (.cells #[.int .i8 x.kind,.string x.text,.slice A x.l.length a,.int .i8 y.kind,.string y.text,.slice B y.l.length b,.int .i8 z.kind,.string z.text,.slice C z.l.length c] 30));have R5:=kp (Bk.keep R4.out (.cells #[.int .i8 x.kind,.string x.text,.slice A x.l.length a,.int .i8 y.kind,.string y.text,.slice B y.l.length b,.int .i8 z.kind,.string z.text,.slice C z.l.length c] 30));have B5:=kp (B4.out.alloc B4.out.size (.cells #[.int .i8 x.kind,.string x.text,.slice A x.l.length a,.int .i8 y.kind,.string y.text,.slice B y.l.length b,.int .i8 z.kind,.string z.text,.slice C z.l.length c] 30));have HN:=kp (show w4.heap.size≠w.heap.size+3 from by have:=lt_of_block R4.out;omega);have HL:=kp B4.out.size;go_upto_region 2 with fail
 generalize w4.alloc (.cells #[.int .i8 x.kind,.string x.text,.slice A x.l.length a,.int .i8 y.kind,.string y.text,.slice B y.l.length b,.int .i8 z.kind,.string z.text,.slice C z.l.length c] 30)=w5 at *;generalize w4.heap.size=lb at *;clear x0 x1 x2 xf y0 y1 y2 yf z0 z1 z2 zf;obtain ⟨r0,r1,r2,rf⟩:=Bk.c3 R5.out;go_wp2_with fail
 exact sexp_ret (w:=set3' w5 (w.heap.size+3) _ _ _) Tryz.results10 (set3'_at R5.out _ _ _) rfl rfl ⟨⟨lb,rfl,HL.out,Bk.apart (Bk.apart (Bk.apart L5.out (p:=⟨w.heap.size+3,0,none⟩) HN.out _) (p:=⟨w.heap.size+3,1,none⟩) HN.out _) (p:=⟨w.heap.size+3,2,none⟩) HN.out _⟩,set3'_below B5.out (by omega) _ _ _⟩
theorem checkT_parts {t:List Node}:checkT t=true ↔ t.take 2=newT/\standsTo t t.length=true/\t.Nodup:=by
 unfold checkT;simp [Bool.and_eq_true,and_assoc]
theorem standsTo_at {t:List Node} {k:Nat} (h:standsTo t t.length=true) {n:Node} (hn:t[k]?=some n):standsN n k=true:=by
 unfold standsTo at h;rw [List.all_eq_true] at h;have:=h k (List.mem_range.2 (gqs hn).1)
 rwa [hn] at this
def ValIn (t:List Node) (v:V):Prop:=∃ (k:Nat) (x:Node),v.2=(k:Int)/\t[k]?=some x/\x.sort=v.1
theorem ValIn.more {t u:List Node} {v:V} (h:ValIn t v) (hu:t <+: u):ValIn u v:=by
 obtain ⟨k,x,h1,h2,h3⟩:=h;obtain ⟨r,rfl⟩:=hu;exact⟨k,x,h1,by rw [List.getElem?_append_left (gqs h2).1];exact h2,h3⟩
theorem ValIn.sorts {t:List Node} {v:V} (h:ValIn t v) (hc:checkT t=true):0<=v.1/\v.1 < 6:=by
 obtain ⟨k,x,h1,h2,h3⟩:=h;have hs:=standsTo_at (checkT_parts.1 hc).2.1 h2;rw [stands_split] at hs;unfold headOkB at hs;simp only [Bool.and_eq_true,decide_eq_true_eq] at hs;rw [← h3];exact⟨hs.1.1.1.1.2,hs.1.1.1.2⟩
section
variable {g:Sig} {most:Int}
end
end El
namespace El
open Go.RowKit Dt Sg
def rmanyN (op:Int):Int:=if op=0\/op=10 then 0 else if op=1\/op=11 then 1 else if op=2\/op=3\/op=4\/op=5\/op=6\/op=8\/op=9\/op=12 then 2 else if op=7 then 3 else -1
theorem rmany_any (op:Int) (w:World) :
  Calls Tryz.prog 108 #[.int .i8 op] w fun e w'=>e=.returned (.int .i64 (rmanyN op))/\w=w':=by
 go_enter Tryz.func108,Tryz.ntmps108
 go_wp2_with fail
 all_goals
  go_ret;exact⟨ret_int (by unfold rmanyN;simp_all),rfl⟩
def allI (l:List Int) (s:Int):Bool:=l.all fun x=>x == s
theorem ralike_any {w:World} {A:Option Addr} {l:List Int} (c:Nat) (n s:Int) (h:Cells w A (l.map (Value.int .i64))) (hl:l.length<=1000000) :
  Calls Tryz.prog 109 #[.slice A l.length c,.int .i64 n,.int .i64 s] w fun e w'=>e=.returned (.bool (allI l s && decide ((l.length:Int)=n)))/\w=w':=by
 have HC:=kp h
 have HSt:=kp (fun k (hk:k < l.length) (hne:l.getD k 0≠s)=>show allI l s=false by
  unfold allI;rw [List.all_eq_false];refine⟨l.getD k 0,?_,by simpa using hne⟩;rw [List.getD_eq_getElem?_getD,gqe hk];exact List.getElem_mem hk)
 have HAl:=kp (fun(hh:∀ k,k < l.length->l.getD k 0=s)=>show allI l s=true by
  unfold allI;rw [List.all_eq_true];intro x hx;obtain ⟨k,hk⟩:=List.getElem?_of_mem hx;have h1:=hh k (gqs hk).1;rw [List.getD_eq_getElem?_getD,hk] at h1
  simpa using h1)
 clear h;generalize allI l s=al at *
 go_enter Tryz.func109,Tryz.ntmps109
 go_wp2_with fail
 go_loop [7] (fun v=>∃ k:Nat,k<=l.length/\v=.int .i64 k/\∀ j,j < k->l.getD j 0=s) (fun v=>l.length - (intOf v).toNat)
 case atStart=>exact⟨0,Nat.zero_le _,rfl,fun j hj=>by omega⟩
 case round =>
  obtain ⟨k,hk,rfl,hto⟩:=hrel;have HTo:=kp hto;clear hto
  by_cases hlt:k < l.length
  ·have hlt2:(k:Int) < (l.length:Int):=by omega
   obtain ⟨b,o,rfl,pk⟩:=cells_get HC.out hlt;have HSk:=kp (fun hne=>HSt.out k hlt hne)
   have HTk:=kp (show l.getD k 0=s->∀ j,j < k+1->l.getD j 0=s from fun he j hj=>by
    by_cases h:j < k
    ·exact HTo.out j h
    ·obtain rfl:j=k:=by omega
     exact he)
   generalize l.getD k 0=x at *
   by_cases hq:x=s
   ·have hq':(x != s)=false:=by simp [hq]
    have HQ:=kp (HTk.out hq);clear hq;go_wp2_with fail
    go_round
    case rel=>exact⟨k+1,by omega,by go_num,HQ.out⟩
    case measure=>simp [intOf];omega
   ·have hq':(x != s)=true:=by simp [hq]
    have HQ:=kp (HSk.out hq);clear hq;go_wp2_with fail
    go_ret;exact⟨ret_bool (by rw [HQ.out];rfl),rfl⟩
  ·obtain rfl:k=l.length:=by omega
   have HQ:=kp (HAl.out HTo.out);go_wp2_with fail
   go_ret;exact⟨ret_bool (by rw [HQ.out];rfl),rfl⟩
def RopPost (op:Int) (l:List Int) (w:World) (e:Ending) (w':World):Prop :=
 (∃ a er,e=.returned (.tuple #[.int .i64 a,.int .i64 er])/\(∀ s,opS op l=some s->a=s/\er=0)/\(opS op l=none->a=0/\(er=2\/er=33)))/\Below w.heap.size w w'
theorem rop_none {op:Int} {l:List Int} {w w':World} {er:Int} (h:opS op l=none) (he:er=2\/er=33) (hb:Below w.heap.size w w'):RopPost op l w (.returned (.tuple #[.int .i64 0,.int .i64 er])) w' :=
 ⟨⟨0,er,rfl,fun s hs=>by rw [h] at hs;(cases hs),fun _=>⟨rfl,he⟩⟩,hb⟩
theorem rop_some {op:Int} {l:List Int} {w w':World} {s:Int} (h:opS op l=some s) (hb:Below w.heap.size w w'):RopPost op l w (.returned (.tuple #[.int .i64 s,.int .i64 0])) w' :=
 ⟨⟨s,0,rfl,fun u hs=>by rw [h] at hs;cases hs;exact⟨rfl,rfl⟩,fun hn=>by rw [h] at hn;cases hn⟩,hb⟩
theorem opS_neg {op:Int} {l:List Int} (h:l.any (fun x=>decide (x < 0))=true):opS op l=none:=by
 cases ho:opS op l with
 | none=>rfl
 | some s =>
  have:=opProg_some.1 s ho;unfold opProg at this;rw [h] at this
  repeat' split at this
  all_goals simp at this
  all_goals (exfalso;simp_all)
theorem rmany_rule (op:Int) (h:ruleK op=true):(ruleL op).1=rmanyN op:=by
 by_cases ho:0<=op/\op<=12
 ·have:op=0\/op=1\/op=2\/op=3\/op=4\/op=5\/op=6\/op=7\/op=8\/op=9\/op=10\/op=11\/op=12:=by omega
  rcases this with rfl | rfl | rfl | rfl | rfl | rfl | rfl | rfl | rfl | rfl | rfl | rfl | rfl <;> decide
 ·exfalso
  unfold ruleK at h;simp at h
  omega
theorem rop_bad {w:World} {A:Option Addr} {l:List Int} (c:Nat) (op:Int) (h:rmanyN op < 0\/(l.length:Int)≠rmanyN op) :
  Calls Tryz.prog 68 #[.int .i8 op,.slice A l.length c] w (RopPost op l w):=by
 have HP:=kp (show ∀ w',Below w.heap.size w w'->RopPost op l w (.returned (.tuple #[.int .i64 0,.int .i64 2])) w' from fun w' hb=>rop_none (by
  cases ho:opS op l with
  | none=>rfl
  | some s =>
   obtain ⟨h1,h2⟩:=opS_len ho;rw [rmany_rule op h1] at h2
   exfalso;omega) (.inl rfl) hb)
 have HM:=kp (fun W=>rmany_any op W);generalize rmanyN op=m at *;generalize RopPost op l w=PP at *
 by_cases h0:m < 0
 ·go_enter Tryz.func68,Tryz.ntmps68
  go_wp2_with fail
  refine(HM.out _).mono ?_;rintro e w' ⟨rfl,rfl⟩;go_wp2_with fail
  exact HP.out _ (Below.refl _ _)
 ·have h1:((l.length:Int) != m)=true:=by simp;omega
  replace h0:=dfq h0;clear h
  go_enter Tryz.func68,Tryz.ntmps68
  go_wp2_with fail
  refine(HM.out _).mono ?_;rintro e w' ⟨rfl,rfl⟩;go_wp2_with fail
  exact HP.out _ (Below.refl _ _)
theorem rop_0 {w:World} {A:Option Addr} (c:Nat) (h:Cells w A (([]:List Int).map (Value.int .i64))) :
  Calls Tryz.prog 68 #[.int .i8 0,.slice A 0 c] w (RopPost 0 [] w):=by
 have HC:=kp h;have HNg:=kp (fun w' hn hb=>rop_none (op:=0) (l:=[]) (w:=w) (w':=w') (er:=33) (opS_neg hn) (.inr rfl) hb);have HM:=kp (show ∀ W,Calls Tryz.prog 108 #[.int .i8 0] W fun e w'=>e=.returned (.int .i64 0)/\W=w' from fun W=>rmany_any 0 W);have BR:=kp (brq w);clear h
 go_enter Tryz.func68,Tryz.ntmps68
 go_wp2_with fail
 refine(HM.out _).mono ?_;rintro e w' ⟨rfl,rfl⟩;go_wp2_with fail
 go_loop [7] (fun v=>∃ k:Nat,k<=0/\v=.int .i64 k/\∀ j,j < k->¬ ([]:List Int).getD j 0 < 0) (fun v=>0 - (intOf v).toNat)
 case atStart=>exact⟨0,Nat.zero_le _,rfl,fun j hj=>by omega⟩
 case round =>
  obtain ⟨k,hk,rfl,hto⟩:=hrel;have HTo:=kp hto;clear hto
  by_cases hlt:k < 0
  ·skip;exact absurd hlt (Nat.not_lt_zero k)
  ·obtain rfl:k=0:=by omega
   clear HNg HM hlt hk;go_wp2_with fail
   go_ret2;exact rop_some (op:=0) (l:=[]) (s:=0) (by decide) BR.out
theorem rop_10 {w:World} {A:Option Addr} (c:Nat) (h:Cells w A (([]:List Int).map (Value.int .i64))) :
  Calls Tryz.prog 68 #[.int .i8 10,.slice A 0 c] w (RopPost 10 [] w):=by
 have HC:=kp h;have HNg:=kp (fun w' hn hb=>rop_none (op:=10) (l:=[]) (w:=w) (w':=w') (er:=33) (opS_neg hn) (.inr rfl) hb);have HM:=kp (show ∀ W,Calls Tryz.prog 108 #[.int .i8 10] W fun e w'=>e=.returned (.int .i64 0)/\W=w' from fun W=>rmany_any 10 W);have BR:=kp (brq w);clear h
 go_enter Tryz.func68,Tryz.ntmps68
 go_wp2_with fail
 refine(HM.out _).mono ?_;rintro e w' ⟨rfl,rfl⟩;go_wp2_with fail
 go_loop [7] (fun v=>∃ k:Nat,k<=0/\v=.int .i64 k/\∀ j,j < k->¬ ([]:List Int).getD j 0 < 0) (fun v=>0 - (intOf v).toNat)
 case atStart=>exact⟨0,Nat.zero_le _,rfl,fun j hj=>by omega⟩
 case round =>
  obtain ⟨k,hk,rfl,hto⟩:=hrel;have HTo:=kp hto;clear hto
  by_cases hlt:k < 0
  ·skip;exact absurd hlt (Nat.not_lt_zero k)
  ·obtain rfl:k=0:=by omega
   clear HNg HM hlt hk;go_wp2_with fail
   go_ret2;exact rop_some (op:=10) (l:=[]) (s:=1) (by decide) BR.out
theorem rop_1 {w:World} {A:Option Addr}{x:Int} (c:Nat) (h:Cells w A (([x]:List Int).map (Value.int .i64))) :
  Calls Tryz.prog 68 #[.int .i8 1,.slice A 1 c] w (RopPost 1 [x] w):=by
 have HC:=kp h;have HNg:=kp (fun w' hn hb=>rop_none (op:=1) (l:=[x]) (w:=w) (w':=w') (er:=33) (opS_neg hn) (.inr rfl) hb);have HM:=kp (show ∀ W,Calls Tryz.prog 108 #[.int .i8 1] W fun e w'=>e=.returned (.int .i64 1)/\W=w' from fun W=>rmany_any 1 W);have BR:=kp (brq w);clear h
 go_enter Tryz.func68,Tryz.ntmps68
 go_wp2_with fail
 refine(HM.out _).mono ?_;rintro e w' ⟨rfl,rfl⟩;go_wp2_with fail
 go_loop [7] (fun v=>∃ k:Nat,k<=1/\v=.int .i64 k/\∀ j,j < k->¬ ([x]:List Int).getD j 0 < 0) (fun v=>1 - (intOf v).toNat)
 case atStart=>exact⟨0,Nat.zero_le _,rfl,fun j hj=>by omega⟩
 case round =>
  obtain ⟨k,hk,rfl,hto⟩:=hrel;have HTo:=kp hto;clear hto
  by_cases hlt:k < 1
  ·skip;have hlt2:(k:Int) < 1:=by omega
   obtain ⟨bk,ok,rfl,pk⟩:=cells_get HC.out (show k < ([x]:List Int).length by simpa using hlt)
   have HTk:=kp (show ¬ ([x]:List Int).getD k 0 < 0->∀ j,j < k+1->¬ ([x]:List Int).getD j 0 < 0 from fun he j hj=>by
    by_cases h:j < k
    ·exact HTo.out j h
    ·obtain rfl:j=k:=by omega
     exact he)
   have HNk:=kp (show([x]:List Int).getD k 0 < 0->([x]:List Int).any (fun x=>decide (x < 0))=true from fun he=>by
    cases hq:([x]:List Int).any (fun x=>decide (x < 0)) with
    | true=>rfl
    | false=>exact absurd he (any_neg.1 hq k (by simpa using hlt)))
   generalize ([x]:List Int).getD k 0=q at *
   by_cases hq:q < 0
   ·go_wp2_with fail
    go_ret2;exact HNg.out _ (HNk.out hq) BR.out
   ·have HQ:=kp (HTk.out hq);replace hq:=dfq hq;go_wp2_with fail
    go_round
    case rel=>exact⟨k+1,by omega,by go_num,HQ.out⟩
    case measure=>simp [intOf];omega
  ·obtain rfl:k=1:=by omega
   clear HNg HM hlt hk
   have HAl:=kp (show ∀ W,Below w.heap.size w W->Calls Tryz.prog 109 #[.slice A 1 c,.int .i64 1,.int .i64 0] W fun e w'=>e=.returned (.bool (allI [x] 0))/\W=w' from fun W hW=>by
    have:=ralike_any (w:=W) (l:=[x]) c 1 0 (HC.out.on hW) (by simp);rw [show(allI [x] 0 && decide ((([x]:List Int).length:Int)=1))=allI [x] 0 by simp] at this;exact this)
   cases ha:allI [x] 0 with
   | true =>
    rw [ha] at HAl;have HE:=kp (rop_some (op:=1) (l:=[x]) (w:=w) (w':=w) (s:=0) (by unfold allI at ha;simp at ha;simp [opS,ha]) BR.out);clear ha;go_wp2_with fail
    refine(HAl.out _ BR.out).mono ?_;rintro e w' ⟨rfl,rfl⟩;go_wp2_with fail
    go_ret2;exact HE.out
   | false =>
    rw [ha] at HAl;have HE:=kp (rop_none (op:=1) (l:=[x]) (w:=w) (w':=w) (er:=33) (by unfold allI at ha;simp at ha;simp [opS];try exact ha) (.inr rfl) BR.out);clear ha;go_wp2_with fail
    refine(HAl.out _ BR.out).mono ?_;rintro e w' ⟨rfl,rfl⟩;go_wp2_with fail
    go_ret2;exact HE.out
theorem rop_11 {w:World} {A:Option Addr}{x:Int} (c:Nat) (h:Cells w A (([x]:List Int).map (Value.int .i64))) :
  Calls Tryz.prog 68 #[.int .i8 11,.slice A 1 c] w (RopPost 11 [x] w):=by
 have HC:=kp h;have HNg:=kp (fun w' hn hb=>rop_none (op:=11) (l:=[x]) (w:=w) (w':=w') (er:=33) (opS_neg hn) (.inr rfl) hb);have HM:=kp (show ∀ W,Calls Tryz.prog 108 #[.int .i8 11] W fun e w'=>e=.returned (.int .i64 1)/\W=w' from fun W=>rmany_any 11 W);have BR:=kp (brq w);clear h
 go_enter Tryz.func68,Tryz.ntmps68
 go_wp2_with fail
 refine(HM.out _).mono ?_;rintro e w' ⟨rfl,rfl⟩;go_wp2_with fail
 go_loop [7] (fun v=>∃ k:Nat,k<=1/\v=.int .i64 k/\∀ j,j < k->¬ ([x]:List Int).getD j 0 < 0) (fun v=>1 - (intOf v).toNat)
 case atStart=>exact⟨0,Nat.zero_le _,rfl,fun j hj=>by omega⟩
 case round =>
  obtain ⟨k,hk,rfl,hto⟩:=hrel;have HTo:=kp hto;clear hto
  by_cases hlt:k < 1
  ·skip;have hlt2:(k:Int) < 1:=by omega
   obtain ⟨bk,ok,rfl,pk⟩:=cells_get HC.out (show k < ([x]:List Int).length by simpa using hlt)
   have HTk:=kp (show ¬ ([x]:List Int).getD k 0 < 0->∀ j,j < k+1->¬ ([x]:List Int).getD j 0 < 0 from fun he j hj=>by
    by_cases h:j < k
    ·exact HTo.out j h
    ·obtain rfl:j=k:=by omega
     exact he)
   have HNk:=kp (show([x]:List Int).getD k 0 < 0->([x]:List Int).any (fun x=>decide (x < 0))=true from fun he=>by
    cases hq:([x]:List Int).any (fun x=>decide (x < 0)) with
    | true=>rfl
    | false=>exact absurd he (any_neg.1 hq k (by simpa using hlt)))
   generalize ([x]:List Int).getD k 0=q at *
   by_cases hq:q < 0
   ·go_wp2_with fail
    go_ret2;exact HNg.out _ (HNk.out hq) BR.out
   ·have HQ:=kp (HTk.out hq);replace hq:=dfq hq;go_wp2_with fail
    go_round
    case rel=>exact⟨k+1,by omega,by go_num,HQ.out⟩
    case measure=>simp [intOf];omega
  ·obtain rfl:k=1:=by omega
   clear HNg HM hlt hk
   have HAl:=kp (show ∀ W,Below w.heap.size w W->Calls Tryz.prog 109 #[.slice A 1 c,.int .i64 1,.int .i64 1] W fun e w'=>e=.returned (.bool (allI [x] 1))/\W=w' from fun W hW=>by
    have:=ralike_any (w:=W) (l:=[x]) c 1 1 (HC.out.on hW) (by simp);rw [show(allI [x] 1 && decide ((([x]:List Int).length:Int)=1))=allI [x] 1 by simp] at this;exact this)
   cases ha:allI [x] 1 with
   | true =>
    rw [ha] at HAl;have HE:=kp (rop_some (op:=11) (l:=[x]) (w:=w) (w':=w) (s:=1) (by unfold allI at ha;simp at ha;simp [opS,ha]) BR.out);clear ha;go_wp2_with fail
    refine(HAl.out _ BR.out).mono ?_;rintro e w' ⟨rfl,rfl⟩;go_wp2_with fail
    go_ret2;exact HE.out
   | false =>
    rw [ha] at HAl;have HE:=kp (rop_none (op:=11) (l:=[x]) (w:=w) (w':=w) (er:=33) (by unfold allI at ha;simp at ha;simp [opS];try exact ha) (.inr rfl) BR.out);clear ha;go_wp2_with fail
    refine(HAl.out _ BR.out).mono ?_;rintro e w' ⟨rfl,rfl⟩;go_wp2_with fail
    go_ret2;exact HE.out
theorem rop_2 {w:World} {A:Option Addr}{x y:Int} (c:Nat) (h:Cells w A (([x,y]:List Int).map (Value.int .i64))) :
  Calls Tryz.prog 68 #[.int .i8 2,.slice A 2 c] w (RopPost 2 [x,y] w):=by
 have HC:=kp h;have HNg:=kp (fun w' hn hb=>rop_none (op:=2) (l:=[x,y]) (w:=w) (w':=w') (er:=33) (opS_neg hn) (.inr rfl) hb);have HM:=kp (show ∀ W,Calls Tryz.prog 108 #[.int .i8 2] W fun e w'=>e=.returned (.int .i64 2)/\W=w' from fun W=>rmany_any 2 W);have BR:=kp (brq w);clear h
 go_enter Tryz.func68,Tryz.ntmps68
 go_wp2_with fail
 refine(HM.out _).mono ?_;rintro e w' ⟨rfl,rfl⟩;go_wp2_with fail
 go_loop [7] (fun v=>∃ k:Nat,k<=2/\v=.int .i64 k/\∀ j,j < k->¬ ([x,y]:List Int).getD j 0 < 0) (fun v=>2 - (intOf v).toNat)
 case atStart=>exact⟨0,Nat.zero_le _,rfl,fun j hj=>by omega⟩
 case round =>
  obtain ⟨k,hk,rfl,hto⟩:=hrel;have HTo:=kp hto;clear hto
  by_cases hlt:k < 2
  ·skip;have hlt2:(k:Int) < 2:=by omega
   obtain ⟨bk,ok,rfl,pk⟩:=cells_get HC.out (show k < ([x,y]:List Int).length by simpa using hlt)
   have HTk:=kp (show ¬ ([x,y]:List Int).getD k 0 < 0->∀ j,j < k+1->¬ ([x,y]:List Int).getD j 0 < 0 from fun he j hj=>by
    by_cases h:j < k
    ·exact HTo.out j h
    ·obtain rfl:j=k:=by omega
     exact he)
   have HNk:=kp (show([x,y]:List Int).getD k 0 < 0->([x,y]:List Int).any (fun x=>decide (x < 0))=true from fun he=>by
    cases hq:([x,y]:List Int).any (fun x=>decide (x < 0)) with
    | true=>rfl
    | false=>exact absurd he (any_neg.1 hq k (by simpa using hlt)))
   generalize ([x,y]:List Int).getD k 0=q at *
   by_cases hq:q < 0
   ·go_wp2_with fail
    go_ret2;exact HNg.out _ (HNk.out hq) BR.out
   ·have HQ:=kp (HTk.out hq);replace hq:=dfq hq;go_wp2_with fail
    go_round
    case rel=>exact⟨k+1,by omega,by go_num,HQ.out⟩
    case measure=>simp [intOf];omega
  ·obtain rfl:k=2:=by omega
   clear HNg HM hlt hk
   have HAl:=kp (show ∀ W,Below w.heap.size w W->Calls Tryz.prog 109 #[.slice A 2 c,.int .i64 2,.int .i64 0] W fun e w'=>e=.returned (.bool (allI [x,y] 0))/\W=w' from fun W hW=>by
    have:=ralike_any (w:=W) (l:=[x,y]) c 2 0 (HC.out.on hW) (by simp);rw [show(allI [x,y] 0 && decide ((([x,y]:List Int).length:Int)=2))=allI [x,y] 0 by simp] at this;exact this)
   cases ha:allI [x,y] 0 with
   | true =>
    rw [ha] at HAl;have HE:=kp (rop_some (op:=2) (l:=[x,y]) (w:=w) (w':=w) (s:=0) (by unfold allI at ha;simp at ha;simp [opS,ha]) BR.out);clear ha;go_wp2_with fail
    refine(HAl.out _ BR.out).mono ?_;rintro e w' ⟨rfl,rfl⟩;go_wp2_with fail
    go_ret2;exact HE.out
   | false =>
    rw [ha] at HAl;have HE:=kp (rop_none (op:=2) (l:=[x,y]) (w:=w) (w':=w) (er:=33) (by unfold allI at ha;simp at ha;simp [opS];try exact ha) (.inr rfl) BR.out);clear ha;go_wp2_with fail
    refine(HAl.out _ BR.out).mono ?_;rintro e w' ⟨rfl,rfl⟩;go_wp2_with fail
    go_ret2;exact HE.out
theorem rop_3 {w:World} {A:Option Addr}{x y:Int} (c:Nat) (h:Cells w A (([x,y]:List Int).map (Value.int .i64))) :
  Calls Tryz.prog 68 #[.int .i8 3,.slice A 2 c] w (RopPost 3 [x,y] w):=by
 have HC:=kp h;have HNg:=kp (fun w' hn hb=>rop_none (op:=3) (l:=[x,y]) (w:=w) (w':=w') (er:=33) (opS_neg hn) (.inr rfl) hb);have HM:=kp (show ∀ W,Calls Tryz.prog 108 #[.int .i8 3] W fun e w'=>e=.returned (.int .i64 2)/\W=w' from fun W=>rmany_any 3 W);have BR:=kp (brq w);clear h
 go_enter Tryz.func68,Tryz.ntmps68
 go_wp2_with fail
 refine(HM.out _).mono ?_;rintro e w' ⟨rfl,rfl⟩;go_wp2_with fail
 go_loop [7] (fun v=>∃ k:Nat,k<=2/\v=.int .i64 k/\∀ j,j < k->¬ ([x,y]:List Int).getD j 0 < 0) (fun v=>2 - (intOf v).toNat)
 case atStart=>exact⟨0,Nat.zero_le _,rfl,fun j hj=>by omega⟩
 case round =>
  obtain ⟨k,hk,rfl,hto⟩:=hrel;have HTo:=kp hto;clear hto
  by_cases hlt:k < 2
  ·skip;have hlt2:(k:Int) < 2:=by omega
   obtain ⟨bk,ok,rfl,pk⟩:=cells_get HC.out (show k < ([x,y]:List Int).length by simpa using hlt)
   have HTk:=kp (show ¬ ([x,y]:List Int).getD k 0 < 0->∀ j,j < k+1->¬ ([x,y]:List Int).getD j 0 < 0 from fun he j hj=>by
    by_cases h:j < k
    ·exact HTo.out j h
    ·obtain rfl:j=k:=by omega
     exact he)
   have HNk:=kp (show([x,y]:List Int).getD k 0 < 0->([x,y]:List Int).any (fun x=>decide (x < 0))=true from fun he=>by
    cases hq:([x,y]:List Int).any (fun x=>decide (x < 0)) with
    | true=>rfl
    | false=>exact absurd he (any_neg.1 hq k (by simpa using hlt)))
   generalize ([x,y]:List Int).getD k 0=q at *
   by_cases hq:q < 0
   ·go_wp2_with fail
    go_ret2;exact HNg.out _ (HNk.out hq) BR.out
   ·have HQ:=kp (HTk.out hq);replace hq:=dfq hq;go_wp2_with fail
    go_round
    case rel=>exact⟨k+1,by omega,by go_num,HQ.out⟩
    case measure=>simp [intOf];omega
  ·obtain rfl:k=2:=by omega
   clear HNg HM hlt hk
   have HAl:=kp (show ∀ W,Below w.heap.size w W->Calls Tryz.prog 109 #[.slice A 2 c,.int .i64 2,.int .i64 0] W fun e w'=>e=.returned (.bool (allI [x,y] 0))/\W=w' from fun W hW=>by
    have:=ralike_any (w:=W) (l:=[x,y]) c 2 0 (HC.out.on hW) (by simp);rw [show(allI [x,y] 0 && decide ((([x,y]:List Int).length:Int)=2))=allI [x,y] 0 by simp] at this;exact this)
   cases ha:allI [x,y] 0 with
   | true =>
    rw [ha] at HAl;have HE:=kp (rop_some (op:=3) (l:=[x,y]) (w:=w) (w':=w) (s:=0) (by unfold allI at ha;simp at ha;simp [opS,ha]) BR.out);clear ha;go_wp2_with fail
    refine(HAl.out _ BR.out).mono ?_;rintro e w' ⟨rfl,rfl⟩;go_wp2_with fail
    go_ret2;exact HE.out
   | false =>
    rw [ha] at HAl;have HE:=kp (rop_none (op:=3) (l:=[x,y]) (w:=w) (w':=w) (er:=33) (by unfold allI at ha;simp at ha;simp [opS];try exact ha) (.inr rfl) BR.out);clear ha;go_wp2_with fail
    refine(HAl.out _ BR.out).mono ?_;rintro e w' ⟨rfl,rfl⟩;go_wp2_with fail
    go_ret2;exact HE.out
theorem rop_4 {w:World} {A:Option Addr}{x y:Int} (c:Nat) (h:Cells w A (([x,y]:List Int).map (Value.int .i64))) :
  Calls Tryz.prog 68 #[.int .i8 4,.slice A 2 c] w (RopPost 4 [x,y] w):=by
 have HC:=kp h;have HNg:=kp (fun w' hn hb=>rop_none (op:=4) (l:=[x,y]) (w:=w) (w':=w') (er:=33) (opS_neg hn) (.inr rfl) hb);have HM:=kp (show ∀ W,Calls Tryz.prog 108 #[.int .i8 4] W fun e w'=>e=.returned (.int .i64 2)/\W=w' from fun W=>rmany_any 4 W);have BR:=kp (brq w);clear h
 go_enter Tryz.func68,Tryz.ntmps68
 go_wp2_with fail
 refine(HM.out _).mono ?_;rintro e w' ⟨rfl,rfl⟩;go_wp2_with fail
 go_loop [7] (fun v=>∃ k:Nat,k<=2/\v=.int .i64 k/\∀ j,j < k->¬ ([x,y]:List Int).getD j 0 < 0) (fun v=>2 - (intOf v).toNat)
 case atStart=>exact⟨0,Nat.zero_le _,rfl,fun j hj=>by omega⟩
 case round =>
  obtain ⟨k,hk,rfl,hto⟩:=hrel;have HTo:=kp hto;clear hto
  by_cases hlt:k < 2
  ·skip;have hlt2:(k:Int) < 2:=by omega
   obtain ⟨bk,ok,rfl,pk⟩:=cells_get HC.out (show k < ([x,y]:List Int).length by simpa using hlt)
   have HTk:=kp (show ¬ ([x,y]:List Int).getD k 0 < 0->∀ j,j < k+1->¬ ([x,y]:List Int).getD j 0 < 0 from fun he j hj=>by
    by_cases h:j < k
    ·exact HTo.out j h
    ·obtain rfl:j=k:=by omega
     exact he)
   have HNk:=kp (show([x,y]:List Int).getD k 0 < 0->([x,y]:List Int).any (fun x=>decide (x < 0))=true from fun he=>by
    cases hq:([x,y]:List Int).any (fun x=>decide (x < 0)) with
    | true=>rfl
    | false=>exact absurd he (any_neg.1 hq k (by simpa using hlt)))
   generalize ([x,y]:List Int).getD k 0=q at *
   by_cases hq:q < 0
   ·go_wp2_with fail
    go_ret2;exact HNg.out _ (HNk.out hq) BR.out
   ·have HQ:=kp (HTk.out hq);replace hq:=dfq hq;go_wp2_with fail
    go_round
    case rel=>exact⟨k+1,by omega,by go_num,HQ.out⟩
    case measure=>simp [intOf];omega
  ·obtain rfl:k=2:=by omega
   clear HNg HM hlt hk
   have HAl:=kp (show ∀ W,Below w.heap.size w W->Calls Tryz.prog 109 #[.slice A 2 c,.int .i64 2,.int .i64 0] W fun e w'=>e=.returned (.bool (allI [x,y] 0))/\W=w' from fun W hW=>by
    have:=ralike_any (w:=W) (l:=[x,y]) c 2 0 (HC.out.on hW) (by simp);rw [show(allI [x,y] 0 && decide ((([x,y]:List Int).length:Int)=2))=allI [x,y] 0 by simp] at this;exact this)
   cases ha:allI [x,y] 0 with
   | true =>
    rw [ha] at HAl;have HE:=kp (rop_some (op:=4) (l:=[x,y]) (w:=w) (w':=w) (s:=0) (by unfold allI at ha;simp at ha;simp [opS,ha]) BR.out);clear ha;go_wp2_with fail
    refine(HAl.out _ BR.out).mono ?_;rintro e w' ⟨rfl,rfl⟩;go_wp2_with fail
    go_ret2;exact HE.out
   | false =>
    rw [ha] at HAl;have HE:=kp (rop_none (op:=4) (l:=[x,y]) (w:=w) (w':=w) (er:=33) (by unfold allI at ha;simp at ha;simp [opS];try exact ha) (.inr rfl) BR.out);clear ha;go_wp2_with fail
    refine(HAl.out _ BR.out).mono ?_;rintro e w' ⟨rfl,rfl⟩;go_wp2_with fail
    go_ret2;exact HE.out
theorem rop_5 {w:World} {A:Option Addr}{x y:Int} (c:Nat) (h:Cells w A (([x,y]:List Int).map (Value.int .i64))) :
  Calls Tryz.prog 68 #[.int .i8 5,.slice A 2 c] w (RopPost 5 [x,y] w):=by
 have HC:=kp h;have HNg:=kp (fun w' hn hb=>rop_none (op:=5) (l:=[x,y]) (w:=w) (w':=w') (er:=33) (opS_neg hn) (.inr rfl) hb);have HM:=kp (show ∀ W,Calls Tryz.prog 108 #[.int .i8 5] W fun e w'=>e=.returned (.int .i64 2)/\W=w' from fun W=>rmany_any 5 W);have BR:=kp (brq w);clear h
 go_enter Tryz.func68,Tryz.ntmps68
 go_wp2_with fail
 refine(HM.out _).mono ?_;rintro e w' ⟨rfl,rfl⟩;go_wp2_with fail
 go_loop [7] (fun v=>∃ k:Nat,k<=2/\v=.int .i64 k/\∀ j,j < k->¬ ([x,y]:List Int).getD j 0 < 0) (fun v=>2 - (intOf v).toNat)
 case atStart=>exact⟨0,Nat.zero_le _,rfl,fun j hj=>by omega⟩
 case round =>
  obtain ⟨k,hk,rfl,hto⟩:=hrel;have HTo:=kp hto;clear hto
  by_cases hlt:k < 2
  ·skip;have hlt2:(k:Int) < 2:=by omega
   obtain ⟨bk,ok,rfl,pk⟩:=cells_get HC.out (show k < ([x,y]:List Int).length by simpa using hlt)
   have HTk:=kp (show ¬ ([x,y]:List Int).getD k 0 < 0->∀ j,j < k+1->¬ ([x,y]:List Int).getD j 0 < 0 from fun he j hj=>by
    by_cases h:j < k
    ·exact HTo.out j h
    ·obtain rfl:j=k:=by omega
     exact he)
   have HNk:=kp (show([x,y]:List Int).getD k 0 < 0->([x,y]:List Int).any (fun x=>decide (x < 0))=true from fun he=>by
    cases hq:([x,y]:List Int).any (fun x=>decide (x < 0)) with
    | true=>rfl
    | false=>exact absurd he (any_neg.1 hq k (by simpa using hlt)))
   generalize ([x,y]:List Int).getD k 0=q at *
   by_cases hq:q < 0
   ·go_wp2_with fail
    go_ret2;exact HNg.out _ (HNk.out hq) BR.out
   ·have HQ:=kp (HTk.out hq);replace hq:=dfq hq;go_wp2_with fail
    go_round
    case rel=>exact⟨k+1,by omega,by go_num,HQ.out⟩
    case measure=>simp [intOf];omega
  ·obtain rfl:k=2:=by omega
   clear HNg HM hlt hk
   have HAl:=kp (show ∀ W,Below w.heap.size w W->Calls Tryz.prog 109 #[.slice A 2 c,.int .i64 2,.int .i64 0] W fun e w'=>e=.returned (.bool (allI [x,y] 0))/\W=w' from fun W hW=>by
    have:=ralike_any (w:=W) (l:=[x,y]) c 2 0 (HC.out.on hW) (by simp);rw [show(allI [x,y] 0 && decide ((([x,y]:List Int).length:Int)=2))=allI [x,y] 0 by simp] at this;exact this)
   cases ha:allI [x,y] 0 with
   | true =>
    rw [ha] at HAl;have HE:=kp (rop_some (op:=5) (l:=[x,y]) (w:=w) (w':=w) (s:=0) (by unfold allI at ha;simp at ha;simp [opS,ha]) BR.out);clear ha;go_wp2_with fail
    refine(HAl.out _ BR.out).mono ?_;rintro e w' ⟨rfl,rfl⟩;go_wp2_with fail
    go_ret2;exact HE.out
   | false =>
    rw [ha] at HAl;have HE:=kp (rop_none (op:=5) (l:=[x,y]) (w:=w) (w':=w) (er:=33) (by unfold allI at ha;simp at ha;simp [opS];try exact ha) (.inr rfl) BR.out);clear ha;go_wp2_with fail
    refine(HAl.out _ BR.out).mono ?_;rintro e w' ⟨rfl,rfl⟩;go_wp2_with fail
    go_ret2;exact HE.out
theorem rop_8 {w:World} {A:Option Addr}{x y:Int} (c:Nat) (h:Cells w A (([x,y]:List Int).map (Value.int .i64))) :
  Calls Tryz.prog 68 #[.int .i8 8,.slice A 2 c] w (RopPost 8 [x,y] w):=by
 have HC:=kp h;have HNg:=kp (fun w' hn hb=>rop_none (op:=8) (l:=[x,y]) (w:=w) (w':=w') (er:=33) (opS_neg hn) (.inr rfl) hb);have HM:=kp (show ∀ W,Calls Tryz.prog 108 #[.int .i8 8] W fun e w'=>e=.returned (.int .i64 2)/\W=w' from fun W=>rmany_any 8 W);have BR:=kp (brq w);clear h
 go_enter Tryz.func68,Tryz.ntmps68
 go_wp2_with fail
 refine(HM.out _).mono ?_;rintro e w' ⟨rfl,rfl⟩;go_wp2_with fail
 go_loop [7] (fun v=>∃ k:Nat,k<=2/\v=.int .i64 k/\∀ j,j < k->¬ ([x,y]:List Int).getD j 0 < 0) (fun v=>2 - (intOf v).toNat)
 case atStart=>exact⟨0,Nat.zero_le _,rfl,fun j hj=>by omega⟩
 case round =>
  obtain ⟨k,hk,rfl,hto⟩:=hrel;have HTo:=kp hto;clear hto
  by_cases hlt:k < 2
  ·skip;have hlt2:(k:Int) < 2:=by omega
   obtain ⟨bk,ok,rfl,pk⟩:=cells_get HC.out (show k < ([x,y]:List Int).length by simpa using hlt)
   have HTk:=kp (show ¬ ([x,y]:List Int).getD k 0 < 0->∀ j,j < k+1->¬ ([x,y]:List Int).getD j 0 < 0 from fun he j hj=>by
    by_cases h:j < k
    ·exact HTo.out j h
    ·obtain rfl:j=k:=by omega
     exact he)
   have HNk:=kp (show([x,y]:List Int).getD k 0 < 0->([x,y]:List Int).any (fun x=>decide (x < 0))=true from fun he=>by
    cases hq:([x,y]:List Int).any (fun x=>decide (x < 0)) with
    | true=>rfl
    | false=>exact absurd he (any_neg.1 hq k (by simpa using hlt)))
   generalize ([x,y]:List Int).getD k 0=q at *
   by_cases hq:q < 0
   ·go_wp2_with fail
    go_ret2;exact HNg.out _ (HNk.out hq) BR.out
   ·have HQ:=kp (HTk.out hq);replace hq:=dfq hq;go_wp2_with fail
    go_round
    case rel=>exact⟨k+1,by omega,by go_num,HQ.out⟩
    case measure=>simp [intOf];omega
  ·obtain rfl:k=2:=by omega
   clear HNg HM hlt hk
   have HAl:=kp (show ∀ W,Below w.heap.size w W->Calls Tryz.prog 109 #[.slice A 2 c,.int .i64 2,.int .i64 1] W fun e w'=>e=.returned (.bool (allI [x,y] 1))/\W=w' from fun W hW=>by
    have:=ralike_any (w:=W) (l:=[x,y]) c 2 1 (HC.out.on hW) (by simp);rw [show(allI [x,y] 1 && decide ((([x,y]:List Int).length:Int)=2))=allI [x,y] 1 by simp] at this;exact this)
   cases ha:allI [x,y] 1 with
   | true =>
    rw [ha] at HAl;have HE:=kp (rop_some (op:=8) (l:=[x,y]) (w:=w) (w':=w) (s:=0) (by unfold allI at ha;simp at ha;simp [opS,ha]) BR.out);clear ha;go_wp2_with fail
    refine(HAl.out _ BR.out).mono ?_;rintro e w' ⟨rfl,rfl⟩;go_wp2_with fail
    go_ret2;exact HE.out
   | false =>
    rw [ha] at HAl;have HE:=kp (rop_none (op:=8) (l:=[x,y]) (w:=w) (w':=w) (er:=33) (by unfold allI at ha;simp at ha;simp [opS];try exact ha) (.inr rfl) BR.out);clear ha;go_wp2_with fail
    refine(HAl.out _ BR.out).mono ?_;rintro e w' ⟨rfl,rfl⟩;go_wp2_with fail
    go_ret2;exact HE.out
theorem rop_9 {w:World} {A:Option Addr}{x y:Int} (c:Nat) (h:Cells w A (([x,y]:List Int).map (Value.int .i64))) :
  Calls Tryz.prog 68 #[.int .i8 9,.slice A 2 c] w (RopPost 9 [x,y] w):=by
 have HC:=kp h;have HNg:=kp (fun w' hn hb=>rop_none (op:=9) (l:=[x,y]) (w:=w) (w':=w') (er:=33) (opS_neg hn) (.inr rfl) hb);have HM:=kp (show ∀ W,Calls Tryz.prog 108 #[.int .i8 9] W fun e w'=>e=.returned (.int .i64 2)/\W=w' from fun W=>rmany_any 9 W);have BR:=kp (brq w);clear h
 go_enter Tryz.func68,Tryz.ntmps68
 go_wp2_with fail
 refine(HM.out _).mono ?_;rintro e w' ⟨rfl,rfl⟩;go_wp2_with fail
 go_loop [7] (fun v=>∃ k:Nat,k<=2/\v=.int .i64 k/\∀ j,j < k->¬ ([x,y]:List Int).getD j 0 < 0) (fun v=>2 - (intOf v).toNat)
 case atStart=>exact⟨0,Nat.zero_le _,rfl,fun j hj=>by omega⟩
 case round =>
  obtain ⟨k,hk,rfl,hto⟩:=hrel;have HTo:=kp hto;clear hto
  by_cases hlt:k < 2
  ·skip;have hlt2:(k:Int) < 2:=by omega
   obtain ⟨bk,ok,rfl,pk⟩:=cells_get HC.out (show k < ([x,y]:List Int).length by simpa using hlt)
   have HTk:=kp (show ¬ ([x,y]:List Int).getD k 0 < 0->∀ j,j < k+1->¬ ([x,y]:List Int).getD j 0 < 0 from fun he j hj=>by
    by_cases h:j < k
    ·exact HTo.out j h
    ·obtain rfl:j=k:=by omega
     exact he)
   have HNk:=kp (show([x,y]:List Int).getD k 0 < 0->([x,y]:List Int).any (fun x=>decide (x < 0))=true from fun he=>by
    cases hq:([x,y]:List Int).any (fun x=>decide (x < 0)) with
    | true=>rfl
    | false=>exact absurd he (any_neg.1 hq k (by simpa using hlt)))
   generalize ([x,y]:List Int).getD k 0=q at *
   by_cases hq:q < 0
   ·go_wp2_with fail
    go_ret2;exact HNg.out _ (HNk.out hq) BR.out
   ·have HQ:=kp (HTk.out hq);replace hq:=dfq hq;go_wp2_with fail
    go_round
    case rel=>exact⟨k+1,by omega,by go_num,HQ.out⟩
    case measure=>simp [intOf];omega
  ·obtain rfl:k=2:=by omega
   clear HNg HM hlt hk
   have HAl:=kp (show ∀ W,Below w.heap.size w W->Calls Tryz.prog 109 #[.slice A 2 c,.int .i64 2,.int .i64 1] W fun e w'=>e=.returned (.bool (allI [x,y] 1))/\W=w' from fun W hW=>by
    have:=ralike_any (w:=W) (l:=[x,y]) c 2 1 (HC.out.on hW) (by simp);rw [show(allI [x,y] 1 && decide ((([x,y]:List Int).length:Int)=2))=allI [x,y] 1 by simp] at this;exact this)
   cases ha:allI [x,y] 1 with
   | true =>
    rw [ha] at HAl;have HE:=kp (rop_some (op:=9) (l:=[x,y]) (w:=w) (w':=w) (s:=0) (by unfold allI at ha;simp at ha;simp [opS,ha]) BR.out);clear ha;go_wp2_with fail
    refine(HAl.out _ BR.out).mono ?_;rintro e w' ⟨rfl,rfl⟩;go_wp2_with fail
    go_ret2;exact HE.out
   | false =>
    rw [ha] at HAl;have HE:=kp (rop_none (op:=9) (l:=[x,y]) (w:=w) (w':=w) (er:=33) (by unfold allI at ha;simp at ha;simp [opS];try exact ha) (.inr rfl) BR.out);clear ha;go_wp2_with fail
    refine(HAl.out _ BR.out).mono ?_;rintro e w' ⟨rfl,rfl⟩;go_wp2_with fail
    go_ret2;exact HE.out
theorem rop_12 {w:World} {A:Option Addr}{x y:Int} (c:Nat) (h:Cells w A (([x,y]:List Int).map (Value.int .i64))) :
  Calls Tryz.prog 68 #[.int .i8 12,.slice A 2 c] w (RopPost 12 [x,y] w):=by
 have HC:=kp h;have HNg:=kp (fun w' hn hb=>rop_none (op:=12) (l:=[x,y]) (w:=w) (w':=w') (er:=33) (opS_neg hn) (.inr rfl) hb);have HM:=kp (show ∀ W,Calls Tryz.prog 108 #[.int .i8 12] W fun e w'=>e=.returned (.int .i64 2)/\W=w' from fun W=>rmany_any 12 W);have BR:=kp (brq w);clear h
 go_enter Tryz.func68,Tryz.ntmps68
 go_wp2_with fail
 refine(HM.out _).mono ?_;rintro e w' ⟨rfl,rfl⟩;go_wp2_with fail
 go_loop [7] (fun v=>∃ k:Nat,k<=2/\v=.int .i64 k/\∀ j,j < k->¬ ([x,y]:List Int).getD j 0 < 0) (fun v=>2 - (intOf v).toNat)
 case atStart=>exact⟨0,Nat.zero_le _,rfl,fun j hj=>by omega⟩
 case round =>
  obtain ⟨k,hk,rfl,hto⟩:=hrel;have HTo:=kp hto;clear hto
  by_cases hlt:k < 2
  ·skip;have hlt2:(k:Int) < 2:=by omega
   obtain ⟨bk,ok,rfl,pk⟩:=cells_get HC.out (show k < ([x,y]:List Int).length by simpa using hlt)
   have HTk:=kp (show ¬ ([x,y]:List Int).getD k 0 < 0->∀ j,j < k+1->¬ ([x,y]:List Int).getD j 0 < 0 from fun he j hj=>by
    by_cases h:j < k
    ·exact HTo.out j h
    ·obtain rfl:j=k:=by omega
     exact he)
   have HNk:=kp (show([x,y]:List Int).getD k 0 < 0->([x,y]:List Int).any (fun x=>decide (x < 0))=true from fun he=>by
    cases hq:([x,y]:List Int).any (fun x=>decide (x < 0)) with
    | true=>rfl
    | false=>exact absurd he (any_neg.1 hq k (by simpa using hlt)))
   generalize ([x,y]:List Int).getD k 0=q at *
   by_cases hq:q < 0
   ·go_wp2_with fail
    go_ret2;exact HNg.out _ (HNk.out hq) BR.out
   ·have HQ:=kp (HTk.out hq);replace hq:=dfq hq;go_wp2_with fail
    go_round
    case rel=>exact⟨k+1,by omega,by go_num,HQ.out⟩
    case measure=>simp [intOf];omega
  ·obtain rfl:k=2:=by omega
   clear HNg HM hlt hk
   have HAl:=kp (show ∀ W,Below w.heap.size w W->Calls Tryz.prog 109 #[.slice A 2 c,.int .i64 2,.int .i64 1] W fun e w'=>e=.returned (.bool (allI [x,y] 1))/\W=w' from fun W hW=>by
    have:=ralike_any (w:=W) (l:=[x,y]) c 2 1 (HC.out.on hW) (by simp);rw [show(allI [x,y] 1 && decide ((([x,y]:List Int).length:Int)=2))=allI [x,y] 1 by simp] at this;exact this)
   cases ha:allI [x,y] 1 with
   | true =>
    rw [ha] at HAl;have HE:=kp (rop_some (op:=12) (l:=[x,y]) (w:=w) (w':=w) (s:=0) (by unfold allI at ha;simp at ha;simp [opS,ha]) BR.out);clear ha;go_wp2_with fail
    refine(HAl.out _ BR.out).mono ?_;rintro e w' ⟨rfl,rfl⟩;go_wp2_with fail
    go_ret2;exact HE.out
   | false =>
    rw [ha] at HAl;have HE:=kp (rop_none (op:=12) (l:=[x,y]) (w:=w) (w':=w) (er:=33) (by unfold allI at ha;simp at ha;simp [opS];try exact ha) (.inr rfl) BR.out);clear ha;go_wp2_with fail
    refine(HAl.out _ BR.out).mono ?_;rintro e w' ⟨rfl,rfl⟩;go_wp2_with fail
    go_ret2;exact HE.out
theorem rop_6 {w:World} {A:Option Addr}{x y:Int} (c:Nat) (h:Cells w A (([x,y]:List Int).map (Value.int .i64))) :
  Calls Tryz.prog 68 #[.int .i8 6,.slice A 2 c] w (RopPost 6 [x,y] w):=by
 have HC:=kp h;have HNg:=kp (fun w' hn hb=>rop_none (op:=6) (l:=[x,y]) (w:=w) (w':=w') (er:=33) (opS_neg hn) (.inr rfl) hb);have HM:=kp (show ∀ W,Calls Tryz.prog 108 #[.int .i8 6] W fun e w'=>e=.returned (.int .i64 2)/\W=w' from fun W=>rmany_any 6 W);have BR:=kp (brq w);clear h
 go_enter Tryz.func68,Tryz.ntmps68
 go_wp2_with fail
 refine(HM.out _).mono ?_;rintro e w' ⟨rfl,rfl⟩;go_wp2_with fail
 go_loop [7] (fun v=>∃ k:Nat,k<=2/\v=.int .i64 k/\∀ j,j < k->¬ ([x,y]:List Int).getD j 0 < 0) (fun v=>2 - (intOf v).toNat)
 case atStart=>exact⟨0,Nat.zero_le _,rfl,fun j hj=>by omega⟩
 case round =>
  obtain ⟨k,hk,rfl,hto⟩:=hrel;have HTo:=kp hto;clear hto
  by_cases hlt:k < 2
  ·skip;have hlt2:(k:Int) < 2:=by omega
   obtain ⟨bk,ok,rfl,pk⟩:=cells_get HC.out (show k < ([x,y]:List Int).length by simpa using hlt)
   have HTk:=kp (show ¬ ([x,y]:List Int).getD k 0 < 0->∀ j,j < k+1->¬ ([x,y]:List Int).getD j 0 < 0 from fun he j hj=>by
    by_cases h:j < k
    ·exact HTo.out j h
    ·obtain rfl:j=k:=by omega
     exact he)
   have HNk:=kp (show([x,y]:List Int).getD k 0 < 0->([x,y]:List Int).any (fun x=>decide (x < 0))=true from fun he=>by
    cases hq:([x,y]:List Int).any (fun x=>decide (x < 0)) with
    | true=>rfl
    | false=>exact absurd he (any_neg.1 hq k (by simpa using hlt)))
   generalize ([x,y]:List Int).getD k 0=q at *
   by_cases hq:q < 0
   ·go_wp2_with fail
    go_ret2;exact HNg.out _ (HNk.out hq) BR.out
   ·have HQ:=kp (HTk.out hq);replace hq:=dfq hq;go_wp2_with fail
    go_round
    case rel=>exact⟨k+1,by omega,by go_num,HQ.out⟩
    case measure=>simp [intOf];omega
  ·obtain rfl:k=2:=by omega
   clear HNg HM hlt hk;obtain ⟨b0,o0,rfl,p0⟩:=cells_get (k:=0) HC.out (by simp);obtain ⟨b1,o1,hA,p1⟩:=cells_get (k:=1) HC.out (by simp);obtain ⟨rfl,rfl⟩:=aiq hA;have hx:=HTo.out 0 (by omega);rw [show([x,y]:List Int).getD 0 0=x from rfl] at p0 hx;rw [show([x,y]:List Int).getD 1 0=y from rfl] at p1;rw [Nat.add_zero] at p0;have P0:=kp p0;have P1:=kp p1;have HEq:=kp (show ∀ w',Below w.heap.size w w'->x=y->RopPost 6 [x,y] w (.returned (.tuple #[.int .i64 0,.int .i64 0])) w' from fun w' hb e=>rop_some (by simp [opS,e];omega) hb);have HNe:=kp (show ∀ w',Below w.heap.size w w'->¬ x=y->RopPost 6 [x,y] w (.returned (.tuple #[.int .i64 0,.int .i64 33])) w' from fun w' hb e=>rop_none (by simp [opS,e]) (.inr rfl) hb);clear hx p0 p1 HTo;have h0:(0:Int) < 2:=by omega
   by_cases hxy:x=y
   ·have hxy':(x == y)=true:=by simp [hxy]
    have HE:=kp (HEq.out w.drew BR.out.drew hxy);clear hxy HEq HNe;go_wp2_with fail
    refine wp_region_held_drew (S:=fun W=>W.cell? ⟨b0,o0,none⟩=some (.int .i64 x)/\W.cell? ⟨b0,o0+1,none⟩=some (.int .i64 y)) (by kernel_rfl) (⟨P0.out,P1.out⟩) (fun hHeld=>?_);refine plz [0,1,2,3,4,5,6,7] ?_;iterate 8 (refine tnz (v:=?_) ?_ ?_;rotate_left;(focus first | ((intro w hSw;go_simp;try with_reducible rfl);done) | ((intro w hSw;(have p0:=hSw.1;go_simp;try with_reducible rfl));done) | ((intro w hSw;(have p1:=hSw.2;go_simp;try with_reducible rfl));done));try simp only [pt])
    refine pzz ?_;refine dnz ?_;clear hHeld;go_wp2_with fail
    go_ret2;exact HE.out
   ·have hxy':(x == y)=false:=by simp [hxy]
    have HE:=kp (HNe.out w.drew BR.out.drew hxy);clear hxy HEq HNe;go_wp2_with fail
    refine wp_region_held_drew (S:=fun W=>W.cell? ⟨b0,o0,none⟩=some (.int .i64 x)/\W.cell? ⟨b0,o0+1,none⟩=some (.int .i64 y)) (by kernel_rfl) (⟨P0.out,P1.out⟩) (fun hHeld=>?_);refine plz [0,1,2,3,4,5,6,7] ?_;iterate 8 (refine tnz (v:=?_) ?_ ?_;rotate_left;(focus first | ((intro w hSw;go_simp;try with_reducible rfl);done) | ((intro w hSw;(have p0:=hSw.1;go_simp;try with_reducible rfl));done) | ((intro w hSw;(have p1:=hSw.2;go_simp;try with_reducible rfl));done));try simp only [pt])
    refine pzz ?_;refine dnz ?_;clear hHeld;go_wp2_with fail
    go_ret2;exact HE.out
theorem rop_7 {w:World} {A:Option Addr}{x y z:Int} (c:Nat) (h:Cells w A (([x,y,z]:List Int).map (Value.int .i64))) :
  Calls Tryz.prog 68 #[.int .i8 7,.slice A 3 c] w (RopPost 7 [x,y,z] w):=by
 have HC:=kp h;have HNg:=kp (fun w' hn hb=>rop_none (op:=7) (l:=[x,y,z]) (w:=w) (w':=w') (er:=33) (opS_neg hn) (.inr rfl) hb);have HM:=kp (show ∀ W,Calls Tryz.prog 108 #[.int .i8 7] W fun e w'=>e=.returned (.int .i64 3)/\W=w' from fun W=>rmany_any 7 W);have BR:=kp (brq w);clear h
 go_enter Tryz.func68,Tryz.ntmps68
 go_wp2_with fail
 refine(HM.out _).mono ?_;rintro e w' ⟨rfl,rfl⟩;go_wp2_with fail
 go_loop [7] (fun v=>∃ k:Nat,k<=3/\v=.int .i64 k/\∀ j,j < k->¬ ([x,y,z]:List Int).getD j 0 < 0) (fun v=>3 - (intOf v).toNat)
 case atStart=>exact⟨0,Nat.zero_le _,rfl,fun j hj=>by omega⟩
 case round =>
  obtain ⟨k,hk,rfl,hto⟩:=hrel;have HTo:=kp hto;clear hto
  by_cases hlt:k < 3
  ·skip;have hlt2:(k:Int) < 3:=by omega
   obtain ⟨bk,ok,rfl,pk⟩:=cells_get HC.out (show k < ([x,y,z]:List Int).length by simpa using hlt)
   have HTk:=kp (show ¬ ([x,y,z]:List Int).getD k 0 < 0->∀ j,j < k+1->¬ ([x,y,z]:List Int).getD j 0 < 0 from fun he j hj=>by
    by_cases h:j < k
    ·exact HTo.out j h
    ·obtain rfl:j=k:=by omega
     exact he)
   have HNk:=kp (show([x,y,z]:List Int).getD k 0 < 0->([x,y,z]:List Int).any (fun x=>decide (x < 0))=true from fun he=>by
    cases hq:([x,y,z]:List Int).any (fun x=>decide (x < 0)) with
    | true=>rfl
    | false=>exact absurd he (any_neg.1 hq k (by simpa using hlt)))
   generalize ([x,y,z]:List Int).getD k 0=q at *
   by_cases hq:q < 0
   ·go_wp2_with fail
    go_ret2;exact HNg.out _ (HNk.out hq) BR.out
   ·have HQ:=kp (HTk.out hq);replace hq:=dfq hq;go_wp2_with fail
    go_round
    case rel=>exact⟨k+1,by omega,by go_num,HQ.out⟩
    case measure=>simp [intOf];omega
  ·obtain rfl:k=3:=by omega
   clear HNg HM hlt hk;obtain ⟨b0,o0,rfl,p0⟩:=cells_get (k:=0) HC.out (by simp);obtain ⟨b1,o1,hA,p1⟩:=cells_get (k:=1) HC.out (by simp);obtain ⟨rfl,rfl⟩:=aiq hA;obtain ⟨b1,o1,hA,p2⟩:=cells_get (k:=2) HC.out (by simp);obtain ⟨rfl,rfl⟩:=aiq hA;have hy:=HTo.out 1 (by omega);rw [show([x,y,z]:List Int).getD 0 0=x from rfl] at p0;rw [show([x,y,z]:List Int).getD 1 0=y from rfl] at p1 hy;rw [show([x,y,z]:List Int).getD 2 0=z from rfl] at p2;rw [Nat.add_zero] at p0;have P0:=kp p0;have P1:=kp p1;have P2:=kp p2;have HEq:=kp (show ∀ w',Below w.heap.size w w'->x=0->y=z->RopPost 7 [x,y,z] w (.returned (.tuple #[.int .i64 y,.int .i64 0])) w' from fun w' hb e1 e2=>rop_some (by simp [opS,e1,e2];omega) hb);have HNe:=kp (show ∀ w',Below w.heap.size w w'->¬ (x=0/\y=z)->RopPost 7 [x,y,z] w (.returned (.tuple #[.int .i64 0,.int .i64 33])) w' from fun w' hb e=>rop_none (by simp only [opS];simp;intro h1 h2 h3;exact e ⟨h1,h3⟩) (.inr rfl) hb);clear hy p0 p1 p2 HTo;have h0:(0:Int) < 3:=by omega
   by_cases hx:x=0
   ·have hx':(x == 0)=true:=by simp [hx]
    by_cases hyz:y=z
    ·have hyz':(y == z)=true:=by simp [hyz]
     have HE:=kp (HEq.out w.drew BR.out.drew hx hyz);clear hx hyz HEq HNe;go_wp2_with fail
     refine wp_region_held_drew (S:=fun W=>W.cell? ⟨b0,o0,none⟩=some (.int .i64 x)/\W.cell? ⟨b0,o0+1,none⟩=some (.int .i64 y)/\W.cell? ⟨b0,o0+2,none⟩=some (.int .i64 z)) (by kernel_rfl) (⟨P0.out,P1.out,P2.out⟩) (fun hHeld=>?_);refine plz [0,1,2,3,4,5,6,7,8,9,10,11,12,13] ?_;iterate 14 (refine tnz (v:=?_) ?_ ?_;rotate_left;(focus first | ((intro w hSw;go_simp;try with_reducible rfl);done) | ((intro w hSw;(have p0:=hSw.1;go_simp;try with_reducible rfl));done) | ((intro w hSw;(have p1:=hSw.2.1;go_simp;try with_reducible rfl));done) | ((intro w hSw;(have p2:=hSw.2.2;go_simp;try with_reducible rfl));done));try simp only [pt])
     refine pzz ?_;refine dnz ?_;clear hHeld;have p1:=P1.out;generalize hwd:World.drew _=wd at *;have p1':wd.cell? ⟨b0,o0+1,none⟩=some (.int .i64 y):=by rw [← hwd];exact P1.out
     clear hwd p1;go_wp2_with fail
     go_ret2;exact HE.out
    ·have hyz':(y == z)=false:=by simp [hyz]
     have HE:=kp (HNe.out w.drew BR.out.drew (fun h=>hyz h.2));clear hx hyz HEq HNe;go_wp2_with fail
     refine wp_region_held_drew (S:=fun W=>W.cell? ⟨b0,o0,none⟩=some (.int .i64 x)/\W.cell? ⟨b0,o0+1,none⟩=some (.int .i64 y)/\W.cell? ⟨b0,o0+2,none⟩=some (.int .i64 z)) (by kernel_rfl) (⟨P0.out,P1.out,P2.out⟩) (fun hHeld=>?_);refine plz [0,1,2,3,4,5,6,7,8,9,10,11,12,13] ?_;iterate 14 (refine tnz (v:=?_) ?_ ?_;rotate_left;(focus first | ((intro w hSw;go_simp;try with_reducible rfl);done) | ((intro w hSw;(have p0:=hSw.1;go_simp;try with_reducible rfl));done) | ((intro w hSw;(have p1:=hSw.2.1;go_simp;try with_reducible rfl));done) | ((intro w hSw;(have p2:=hSw.2.2;go_simp;try with_reducible rfl));done));try simp only [pt])
     refine pzz ?_;refine dnz ?_;clear hHeld;have p1:=P1.out;generalize hwd:World.drew _=wd at *;have p1':wd.cell? ⟨b0,o0+1,none⟩=some (.int .i64 y):=by rw [← hwd];exact P1.out
     clear hwd p1;go_wp2_with fail
     go_ret2;exact HE.out
   ·have hx':(x == 0)=false:=by simp [hx]
    have HE:=kp (HNe.out w.drew BR.out.drew (fun h=>hx h.1));clear hx HEq HNe;go_wp2_with fail
    refine wp_region_held_drew (S:=fun W=>W.cell? ⟨b0,o0,none⟩=some (.int .i64 x)/\W.cell? ⟨b0,o0+1,none⟩=some (.int .i64 y)/\W.cell? ⟨b0,o0+2,none⟩=some (.int .i64 z)) (by kernel_rfl) (⟨P0.out,P1.out,P2.out⟩) (fun hHeld=>?_);refine plz [0,1,2,3,4] ?_;iterate 5 (refine tnz (v:=?_) ?_ ?_;rotate_left;(focus first | ((intro w hSw;go_simp;try with_reducible rfl);done) | ((intro w hSw;(have p0:=hSw.1;go_simp;try with_reducible rfl));done));try simp only [pt])
    refine pzz ?_;refine sk 5 ?_;try simp only [pt]
    refine sk 6 ?_;try simp only [pt]
    refine sk 7 ?_;try simp only [pt]
    refine sk 8 ?_;try simp only [pt]
    refine sk 9 ?_;try simp only [pt]
    refine sk 10 ?_;try simp only [pt]
    refine sk 11 ?_;try simp only [pt]
    refine plz [12,13] ?_;iterate 2 (refine tnz (v:=?_) ?_ ?_;rotate_left;(focus (intro w hSw;go_simp;try with_reducible rfl));try simp only [pt])
    refine pzz ?_;refine dnz ?_;clear hHeld;have p1:=P1.out;generalize hwd:World.drew _=wd at *;have p1':wd.cell? ⟨b0,o0+1,none⟩=some (.int .i64 y):=by rw [← hwd];exact P1.out
    clear hwd p1;go_wp2_with fail
    go_ret2;exact HE.out
theorem rop_any {w:World} {A:Option Addr} {l:List Int} (c:Nat) (op:Int) (h:Cells w A (l.map (Value.int .i64))) (hl:l.length<=1000000) :
  Calls Tryz.prog 68 #[.int .i8 op,.slice A l.length c] w (RopPost op l w):=by
 by_cases hb:rmanyN op < 0\/(l.length:Int)≠rmanyN op
 ·exact rop_bad c op hb
 have h0:¬ rmanyN op < 0:=fun e=>hb (.inl e);have hn:(l.length:Int)=rmanyN op:=Decidable.byContradiction fun e=>hb (.inr e)
 have ho:(op=0\/op=10)\/(op=1\/op=11)\/(op=2\/op=3\/op=4\/op=5\/op=6\/op=8\/op=9\/op=12)\/op=7:=by
  unfold rmanyN at h0
  repeat' split at h0
  all_goals first | omega | (exfalso;exact h0 (by decide))
 have one:∀ n:Nat,(n:Int)=(l.length:Int)->l.length=n:=fun n e=>by omega
 rcases ho with ho | ho | ho | ho
 ·have e:rmanyN op=0:=by rcases ho with rfl | rfl <;> decide
  obtain rfl:l=[]:=List.length_eq_zero_iff.1 (by omega);rcases ho with rfl | rfl
  ·exact rop_0 c h
  ·exact rop_10 c h
 ·have e:rmanyN op=1:=by rcases ho with rfl | rfl <;> decide
  obtain ⟨x,rfl⟩:=List.length_eq_one_iff.1 (show l.length=1 by omega);rcases ho with rfl | rfl
  ·exact rop_1 c h
  ·exact rop_11 c h
 ·have e:rmanyN op=2:=by rcases ho with rfl | rfl | rfl | rfl | rfl | rfl | rfl | rfl <;> decide
  match l,show l.length=2 by omega,h with
  | [x,y],_,h =>
   rcases ho with rfl | rfl | rfl | rfl | rfl | rfl | rfl | rfl
   ·exact rop_2 c h
   ·exact rop_3 c h
   ·exact rop_4 c h
   ·exact rop_5 c h
   ·exact rop_6 c h
   ·exact rop_8 c h
   ·exact rop_9 c h
   ·exact rop_12 c h
 ·have e:rmanyN op=3:=by subst ho;decide
  subst ho
  match l,show l.length=3 by omega,h with
  | [x,y,z],_,h=>exact rop_7 c h
theorem opR {F:RFix} (op n:Int) (l:List V) (st:St):opM (cxR F) op n l st=if st.e≠0 then(v0,st) else match opS op (l.map Prod.fst) with
  | none=>(v0,{ st with e:=33 })
  | some s=>((s,0),st):=by
 unfold opM putM
 split
 ·rfl
 ·cases opS op (l.map Prod.fst) with
  | none=>rfl
  | some s=>exact if_pos (.inr rfl)
theorem opS_i64' {op:Int} {l:List Int} {s:Int} (h:opS op l=some s) (hl:∀ x ∈ l,I64 x):I64 s:=by
 unfold opS at h
 repeat' split at h
 all_goals first | (cases h;unfold I64;omega) | (cases h;exact hl _ (by simp)) | cases h
theorem lies_var {w:World} {A:Option Addr} {l:List Vy} (h:Lies 3 VarR w A l):∀ p ∈ l,(p.1.size:Int)<=140737488351232/\I64 p.2:=by
 intro v hv;obtain ⟨k,hk⟩:=List.getElem?_of_mem hv;obtain ⟨_,_,_,_,_,h1,h2⟩:=var_get h hk;exact⟨h1,h2⟩
theorem keep_row {S:Nat->Prop} {w w':World} {B m n:Nat} {t:TypeId} {v:Value} {xs:List Value} (h:w.ownsRow B t m v n xs) (hk:Keeps S w w') (hS:∀ k,S k->k < B):w'.ownsRow B t m v n xs:=by
 refine⟨h.1,?_⟩;rcases h.2 with h1 | ⟨g,cap,cur,h1,hg,hat,h2⟩
 ·exact .inl h1
 ·exact .inr ⟨g,cap,cur,h1,hg,(hk.block g (lt_of_block hat) (fun hs=>by have:=hS g hs;omega)).trans hat,h2⟩
theorem zero_set {op ln n:Int} {k:Nat} (hk:k < 3):#[Value.int .i8 op,.int .i8 ln,.int .i64 0,.int .i64 0,.int .i64 0,.int .i64 0,.int .i64 0,.int .i64 n].setIfInBounds (2+k) (.int .i64 0)=#[Value.int .i8 op,.int .i8 ln,.int .i64 0,.int .i64 0,.int .i64 0,.int .i64 0,.int .i64 0,.int .i64 n]:=by
 have hc:k=0\/k=1\/k=2:=by omega
 rcases hc with rfl | rfl | rfl <;> simp
theorem rdop_any {F:RFix} (hF:RFixOk F) {w:World} {st:St} (hm:RR F w st.e) (op n:Int) {L:Option Addr} {vs:List Vy} (cl:Nat) (hl:Lies 3 VarR w L vs) (h3:vs.length<=3) {lV:List V} (hv:st.e=0->lV.map Prod.fst=vs.map Prod.snd) :
  Calls Tryz.prog 142 #[.pointer (some ⟨F.rb,0,none⟩),.int .i8 op,.int .i64 n,.slice L vs.length cl] w (RPost F w (opM (cxR F) op n lV st)):=by
 obtain ⟨i0,hi0,z0,z1,z2⟩:=info_parts info_int;have I0:=kp hi0;have I1:=kp z0;have I2:=kp z1;have I3:=kp z2;clear hi0 z0 z1 z2;have HS:=kp (opR (F:=F) op n lV st);have D1:=kp (RMid.new hm);have L1:=kp (hl.on VarR.lasts ((brq w).alloc nlq (.cells #[.string { data:=#[] },.int .i64 0,.int .i64 0] 94)));have Z1:=kp (show(w.alloc (.cells #[.string { data:=#[] },.int .i64 0,.int .i64 0] 94)).heap.size=w.heap.size+1 by simp);have HSi:=kp (fun s h=>opS_i64' (op:=op) (l:=vs.map Prod.snd) (s:=s) h (fun x hx=>by obtain ⟨v,hv,rfl⟩:=List.mem_map.1 hx;exact(lies_var hl v hv).2));have HOp:=kp (fun W A c hc=>rop_any (w:=W) (A:=A) (l:=vs.map Prod.snd) c op hc (by rw [List.length_map];omega));unfold RopPost at HOp;rw [List.length_map] at HOp;have HVs:=kp hv;clear hm hl hv;generalize opM (cxR F) op n lV st=res at *
 go_enter Tryz.func142,Tryz.ntmps142
 go_upto_region 1 with fail
 generalize w.alloc (.cells #[.string { data:=#[] },.int .i64 0,.int .i64 0] 94)=w1 at *;obtain ⟨m0,m1,m2,m3,m4,m5,m6,m7,m8,mf⟩:=Bk.c9 D1.out.rd.blk
 by_cases he0:st.e=0
 ·have he1:(st.e != 0)=false:=by simp [he0]
  replace HS:=kp (HS.out.trans (if_neg (by simp [he0])));rw [HVs.out he0] at HS;have HE0:=kp he0;have hl128:(vs.length:Int) < 128:=by omega
  clear he0 HVs;go_upto_region 5 with fail
  clear m0 m1 m2 m3 m4 m5 m6 m7 m8 mf he1;have B2:=kp ((brq w1).alloc nlq (.cells #[.int .i8 op,.int .i8 (vs.length:Int),.int .i64 0,.int .i64 0,.int .i64 0,.int .i64 0,.int .i64 0,.int .i64 n] 55));have X2:=kp (Bk.new w1 (.cells #[.int .i8 op,.int .i8 (vs.length:Int),.int .i64 0,.int .i64 0,.int .i64 0,.int .i64 0,.int .i64 0,.int .i64 n] 55));have Z2:=kp (show w1.heap.size+1<=(w1.alloc (.cells #[.int .i8 op,.int .i8 (vs.length:Int),.int .i64 0,.int .i64 0,.int .i64 0,.int .i64 0,.int .i64 0,.int .i64 n] 55)).heap.size by simp);generalize w1.alloc (.cells #[.int .i8 op,.int .i8 (vs.length:Int),.int .i64 0,.int .i64 0,.int .i64 0,.int .i64 0,.int .i64 0,.int .i64 n] 55)=w2 at *;go_wp2_with fail
  go_loopw [9,11] (fun v' i' wr=>∃ k:Nat,k<=vs.length/\i'=.int .i64 k/\wr.ownsRow (w1.heap.size+1) 3 1 v' k (((vs.take k).map Prod.snd).map (Value.int .i64))/\Below w1.heap.size w1 wr/\w1.heap.size+1<=wr.heap.size/\wr.heap[w1.heap.size]?=some (.cells #[.int .i8 op,.int .i8 (vs.length:Int),.int .i64 0,.int .i64 0,.int .i64 0,.int .i64 0,.int .i64 0,.int .i64 n] 55 (0,0))) (fun _ i' _=>vs.length - (intOf i').toNat)
  case atStart=>exact⟨0,Nat.zero_le _,rfl,⟨rfl,.inl ⟨rfl,rfl⟩⟩,B2.out,Z2.out,X2.out⟩
  case round =>
   obtain ⟨k,hk,rfl,ho,hb,hz,hx⟩:=hrel;have HO:=kp ho;have HB:=kp hb;have HZ:=kp hz;have XR:=kp hx;obtain ⟨Ao,co,rfl⟩:=row_shape ho;clear ho hb hz hx
   by_cases hkl:k < vs.length
   ·have hlt2:(k:Int) < (vs.length:Int):=by omega
    have hk3:k < 3:=by omega
    obtain ⟨v,hv⟩:∃ v,vs[k]?=some v:=⟨_,gqe hkl⟩;have HTk:=kp (show((vs.take (k+1)).map Prod.snd).map (Value.int .i64)=((vs.take k).map Prod.snd).map (Value.int .i64) ++ [.int .i64 v.2] by rw [List.take_add_one,hv];simp);have HV:=kp hv;generalize ((vs.take k).map Prod.snd).map (Value.int .i64)=vk at *;obtain ⟨b,o,rfl,hbl,⟨e0,e1,e2⟩,_,hvi⟩:=var_get (L1.out.on VarR.lasts HB.out) hv;have OD:=kp (show World.ownsRow (wr.alloc (.cells #[.int .i64 v.2] 3)) (w1.heap.size+1) 3 1 (.slice Ao k co) k vk from HO.out.alloc _);have CD:=kp (Cells.new wr [.int .i64 v.2] 3 (0,0));have XD:=kp (Bk.keep XR.out (.cells #[.int .i64 v.2] 3));have BD:=kp (HB.out.alloc HB.out.size (.cells #[.int .i64 v.2] 3));clear hv
    go_wp2_with (at_builtin;refine wpList_append_at rfl (.tmp 32) (.tmp 38) _ rfl (w1.heap.size+1) 3 i0 (.int .i64 0) 1 8 Tryz.underlying111 I0.out I1.out I2.out I3.out rfl (by decide) (.slice Ao k co) k vk rfl OD.out (some ⟨wr.heap.size,0,none⟩) 1 1 [.int .i64 v.2] rfl rfl CD.out (by simp [Value.oneCell']) (by unfold maxLen;omega) (by omega) (by have:=HZ.out;simp;omega) ?_)
    intro v9 w9 hown hgr hat;have O9:=kp (show w9.ownsRow (w1.heap.size+1) 3 1 v9 (k+1) (((vs.take (k+1)).map Prod.snd).map (Value.int .i64)) by rw [HTk.out];exact hown);have HNb:=kp (show ∀ j,j < w1.heap.size+1->some j≠(Value.slice Ao k co).ownBlock from fun j hj e=>by have:=(OD.out.lt j e.symm).1;omega);have B9:=kp (BD.out.grown hgr (by have:=BD.out.size;simpa using this) (fun j hj=>by have:=(OD.out.lt j hj).1;omega));have X9:=kp ((hgr.block _ (lt_of_block XD.out) (HNb.out _ (by omega))).trans XD.out);have Z9:=kp (show w1.heap.size+1<=w9.heap.size by have:=HZ.out;have:=hgr.size;simp at this;omega);obtain ⟨b',o',hA,_,⟨f0,f1,f2⟩,_,_⟩:=var_get (L1.out.on VarR.lasts B9.out) HV.out;obtain ⟨rfl,rfl⟩:=aiq hA;have pk:=NodeAt.arg' (node_block (n:=⟨op,vs.length,0,0,0,0,0,n⟩) X9.out) hk3;rw [Nat.zero_add] at pk;obtain ⟨_,_,_,_,_,_,_,_,xf⟩:=Bk.c8 X9.out;have KB:=kp ((Keeps.refl (fun b=>b=w1.heap.size) w9).setCell (p:=⟨w1.heap.size,2+k,none⟩) (.inl rfl) (.int .i64 0));have XC:=kp (Bk.set_at X9.out (2+k) (.int .i64 0));rw [zero_set hk3] at XC;have BC:=kp (B9.out.setCell (p:=⟨w1.heap.size,2+k,none⟩) nlq (.int .i64 0));have OC:=kp (keep_row O9.out KB.out (fun b hb=>by omega));have ZC:=kp (show w1.heap.size+1<=(w9.setCell ⟨w1.heap.size,2+k,none⟩ (.int .i64 0)).heap.size from Nat.le_trans Z9.out KB.out.size);clear hown hgr hat e0 e1 e2;go_wp2_with fail
    go_roundw
    case rel=>exact⟨k+1,by omega,by go_num,OC.out,BC.out,ZC.out,XC.out⟩
    case measure=>simp [intOf];omega
   ·obtain rfl:k=vs.length:=by omega
    have HCl:=kp (Cells.own HO.out);rw [List.take_length] at HCl;have HCall:=kp (HOp.out wr Ao co HCl.out);have DR:=kp (D1.out.below HB.out);go_wp2_with fail
    refine HCall.out.mono ?_;rintro e w5 ⟨⟨pa,pb,rfl,hs1,hs2⟩,hb5⟩;have D5:=kp (DR.out.below hb5);have X5:=kp (Bk.on XR.out hb5);clear hb5
    cases hos:opS op (vs.map Prod.snd) with
    | none =>
     rw [hos] at HS;have hpb:(pb != 0)=true:=by rw [bne_iff_ne];have:=(hs2 hos).2;omega
     have HSf:=kp (show failS 33 st={ st with e:=33 } by unfold failS;rw [if_pos HE0.out]);have HFl:=kp (fails_any hF D5.out.rd 33);rw [HSf.out] at HFl;clear hos hs1 hs2;go_wp2_with fail
     refine HFl.out.mono ?_;rintro e w7 ⟨nm7,s7,rfl,hv7,hk7,hm7⟩;have D7:=kp (D5.out.call hk7 hm7);clear hk7 hm7;obtain ⟨r0,r1,r2,rf⟩:=Bk.c3 D7.out.cell;go_wp2_with fail
     rw [HS.out];refine RMid.ret hF (q:=(v0,{ st with e:=33 })) D7.out Tryz.results142 ?_ ?_ hv7 <;> rfl
    | some s =>
     rw [hos] at HS;obtain ⟨rfl,rfl⟩:=hs1 s hos;have hsi:=HSi.out _ hos;clear hos hs1 hs2;obtain ⟨x0,x1,x2,x3,x4,x5,x6,x7,xf⟩:=Bk.c8 X5.out;have D6:=kp (D5.out.other hF (k:=w1.heap.size) (by have:=Z1.out;omega) (by have:=Z1.out;omega) 5 (.int .i64 pa));have X6:=kp (Bk.set_at X5.out 5 (.int .i64 pa));go_upto_region 14 with fail
     clear x0 x1 x2 x3 x4 x5 x6 x7 xf;generalize w5.setCell ⟨w1.heap.size,5,none⟩ (.int .i64 pa)=w6 at *;replace X6:=kp (show w6.heap[w1.heap.size]?=some (.cells #[.int .i8 op,.int .i8 (vs.length:Int),.int .i64 0,.int .i64 0,.int .i64 0,.int .i64 pa,.int .i64 0,.int .i64 n] 55 (0,0)) from X6.out);obtain ⟨x0,x1,x2,x3,x4,x5,x6,x7,xf⟩:=Bk.c8 X6.out;have HP:=kp (rput_any hF D6.out.rd op vs.length 0 0 0 pa 0 n hsi);go_wp2_with fail
     refine HP.out.mono ?_;rintro e w7 ⟨nm7,s7,rfl,hv7,hk7,hm7⟩;have D7:=kp (D6.out.call hk7 hm7);clear hk7 hm7;obtain ⟨r0,r1,r2,rf⟩:=Bk.c3 D7.out.cell;go_wp2_with fail
     rw [HS.out];refine RMid.ret hF (q:=((pa,0),st)) D7.out Tryz.results142 ?_ ?_ hv7 <;> rfl
 ·have he1:(st.e != 0)=true:=by simp [he0]
  replace HS:=kp (HS.out.trans (if_pos he0));have hno:st.e≠0:=he0;obtain ⟨r0,r1,r2,rf⟩:=Bk.c3 D1.out.cell;go_wp2_with fail
  rw [HS.out];refine RMid.ret hF (q:=(v0,st)) D1.out Tryz.results142 ?_ ?_ (nil_ok (fun _=>rfl)) <;> rfl
theorem number_ret {f:Func} {w:World} {b:Nat} {n:Int} {x y z:Value} {act:Act} {R:Ending->World->Prop} (hf:f.results=#[.tmp 4,.cell 5 94]) (hb:w.heap[b]?=some (.cells #[x,y,z] 94 (0,0))) (h1:act.tmps[4]?=some (.int .i64 n)) (h2:act.tmps[5]?=some (.pointer (some ⟨b,0,none⟩))) (hd:act.defers=[]) (hR:R (.returned (.tuple #[.int .i64 n,.agg #[x,y,z]])) w) :
  bodyPost Tryz.prog f R .ret act w:=by
 obtain ⟨y0,y1,y2,_⟩:=Bk.c3 hb;refine bodyPost_ret (v:=.tuple #[.int .i64 n,.agg #[x,y,z]]) ?_ hd hR;simp [results,hf,go_sem,y0,y1,y2,h1,h2]
def RNumPost (F:RFix) (w:World) (x:Sexp) (er:Int) (e:Ending) (w':World):Prop :=
 e=.returned (.tuple #[.int .i64 (numR x).1,.agg #[.string { data:=#[] },.int .i64 1,.int .i64 0]])/\Keeps (onRb F) w w'/\RR F w' er
theorem rnumber_any {F:RFix} (hF:RFixOk F) {w:World} {er:Int} (hm:RR F w er) {A:Option Addr} {c:Nat} {x:Sexp} (hx:XAt F.W0 A c x) :
  Calls Tryz.prog 141 #[.pointer (some ⟨F.rb,0,none⟩),.agg #[.int .i8 x.kind,.string x.text,.slice A x.l.length c]] w (RNumPost F w x er):=by
 have B1:=kp ((brq w).alloc nlq (.cells #[.int .i8 x.kind,.string x.text,.slice A x.l.length c] 30));have Z1:=kp (show(w.alloc (.cells #[.int .i8 x.kind,.string x.text,.slice A x.l.length c] 30)).heap.size=w.heap.size+1 by simp);have D1:=kp (RMid.newOn hm B1.out);have X1:=kp (Bk.keep (Bk.new w (.cells #[.int .i8 x.kind,.string x.text,.slice A x.l.length c] 30)) (.cells #[.string { data:=#[] },.int .i64 0,.int .i64 0] 94));rw [Z1.out] at D1;have HN:=kp (rnumeralX_any (hx.on D1.out.rd.below));unfold NumPost at HN;have HPo:=kp (show ∀ n w',n=(numR x).1->Keeps (onRb F) w w'->RR F w' er->RNumPost F w x er (.returned (.tuple #[.int .i64 n,.agg #[.string { data:=#[] },.int .i64 1,.int .i64 0]])) w' from fun n w' h1 h2 h3=>⟨by rw [h1],h2,h3⟩);clear hm hx;generalize RNumPost F w x er=PP at *;generalize numR x=nr at *;obtain ⟨n,b,ne⟩:=nr
 go_enter Tryz.func141,Tryz.ntmps141
 go_upto_region 1 with fail
 generalize (w.alloc (.cells #[.int .i8 x.kind,.string x.text,.slice A x.l.length c] 30)).alloc (.cells #[.string { data:=#[] },.int .i64 0,.int .i64 0] 94)=w1 at *;obtain ⟨q0,q1,q2,qf⟩:=Bk.c3 X1.out;go_wp2_with fail
 refine HN.out.mono ?_;rintro e w2 ⟨rfl,hb⟩;have D2:=kp (D1.out.below hb);clear hb q0 q1 q2 qf;obtain ⟨m0,m1,m2,m3,m4,m5,m6,m7,m8,mf⟩:=Bk.c9 D2.out.rd.blk;obtain ⟨r0,r1,r2,rf⟩:=Bk.c3 D2.out.cell;have hne:F.rb≠w.heap.size+1:=by have:=D2.out.lt;omega
 have hge:F.W0.heap.size<=w.heap.size+1:=by have:=D2.out.lt;have:=hF.lt;omega
 go_wp2_with fail
 refine number_ret (b:=w.heap.size+1) (n:=n) (x:=.string { data:=#[] }) (y:=.int .i64 1) (z:=.int .i64 0) Tryz.results141 (Bk.set_at (Bk.set_at (Bk.set_at D2.out.cell 0 _) 1 _) 2 _) rfl rfl rfl ?_
 exact HPo.out _ _ rfl (((D2.out.keeps.setCell (p:=⟨w.heap.size+1,0,none⟩) (.inr D2.out.le) _).setCell (p:=⟨w.heap.size+1,1,none⟩) (.inr D2.out.le) _).setCell (p:=⟨w.heap.size+1,2,none⟩) (.inr D2.out.le) _)
  ⟨Bk.apart (Bk.apart (Bk.apart D2.out.rd.blk (p:=⟨w.heap.size+1,0,none⟩) hne _) (p:=⟨w.heap.size+1,1,none⟩) hne _) (p:=⟨w.heap.size+1,2,none⟩) hne _,((D2.out.rd.below.setCell (p:=⟨w.heap.size+1,0,none⟩) hge _).setCell (p:=⟨w.heap.size+1,1,none⟩) hge _).setCell (p:=⟨w.heap.size+1,2,none⟩) hge _⟩
theorem rnumeral_any {F:RFix} (hF:RFixOk F) {w:World} {st:St} (hm:RR F w st.e) {A:Option Addr} {c:Nat} {x:Sexp} (hx:XAt F.W0 A c x) :
  Calls Tryz.prog 88 #[.pointer (some ⟨F.rb,0,none⟩),.agg #[.int .i8 x.kind,.string x.text,.slice A x.l.length c]] w (RPost F w (opM (cxR F) 10 0 [] st)):=by
 have B1:=kp ((brq w).alloc nlq (.cells #[.int .i8 x.kind,.string x.text,.slice A x.l.length c] 30));have Z1:=kp (show(w.alloc (.cells #[.int .i8 x.kind,.string x.text,.slice A x.l.length c] 30)).heap.size=w.heap.size+1 by simp);have D1:=kp (RMid.newOn hm B1.out);have X1:=kp (Bk.keep (Bk.new w (.cells #[.int .i8 x.kind,.string x.text,.slice A x.l.length c] 30)) (.cells #[.string { data:=#[] },.int .i64 0,.int .i64 0] 94));rw [Z1.out] at D1;have HN:=kp (rnumber_any hF D1.out.rd hx);unfold RNumPost at HN;have HS:=kp (opR (F:=F) 10 0 [] st);clear hm hx;generalize numR x=nr at *
 go_enter Tryz.func88,Tryz.ntmps88
 go_upto_region 1 with fail
 generalize (w.alloc (.cells #[.int .i8 x.kind,.string x.text,.slice A x.l.length c] 30)).alloc (.cells #[.string { data:=#[] },.int .i64 0,.int .i64 0] 94)=w1 at *;obtain ⟨q0,q1,q2,qf⟩:=Bk.c3 X1.out;go_wp2_with fail
 refine HN.out.mono ?_;rintro e w2 ⟨rfl,hk,hr⟩;have D2:=kp ((D1.out.call hk hr).alloc (.cells #[.string { data:=#[] },.int .i64 1,.int .i64 0] 94));clear hk hr q0 q1 q2 qf;go_upto_region 2 with fail
 generalize w2.alloc (.cells #[.string { data:=#[] },.int .i64 1,.int .i64 0] 94)=w3 at *;obtain ⟨m0,m1,m2,m3,m4,m5,m6,m7,m8,mf⟩:=Bk.c9 D2.out.rd.blk
 by_cases he0:st.e=0
 ·have he1:(st.e != 0)=false:=by simp [he0]
  have HOp:=kp (rdop_any hF D2.out.rd 10 0 (L:=none) (vs:=[]) (lV:=[]) 0 (.inl rfl) (by simp) (fun _=>rfl));generalize opM (cxR F) 10 0 [] st=res at *;clear he0;go_wp2_with fail
  refine HOp.out.mono ?_;rintro e w7 ⟨nm7,s7,rfl,hv7,hk7,hm7⟩;have D7:=kp (D2.out.call hk7 hm7);clear hk7 hm7;obtain ⟨r0,r1,r2,rf⟩:=Bk.c3 D7.out.cell;go_wp2_with fail
  refine RMid.ret hF (q:=res) D7.out Tryz.results88 ?_ ?_ hv7 <;> rfl
 ·have he1:(st.e != 0)=true:=by simp [he0]
  replace HS:=kp (HS.out.trans (if_pos he0));generalize opM (cxR F) 10 0 [] st=res at *;have hno:st.e≠0:=he0;obtain ⟨r0,r1,r2,rf⟩:=Bk.c3 D2.out.cell;go_wp2_with fail
  rw [HS.out];refine RMid.ret hF (q:=(v0,st)) D2.out Tryz.results88 ?_ ?_ (nil_ok (fun _=>rfl)) <;> rfl
def findV (vs:List Vy) (s:ByteArray):Option Vy:=vs.reverse.find? fun p=>decide (p.1=s)
theorem findV_hit {vs:List Vy} {s:ByteArray} {k:Nat} {p:Vy} (hp:vs[k]?=some p) (h:p.1=s):findV (vs.take (k+1)) s=some p:=by
 unfold findV;rw [List.take_add_one,hp];simp [h]
theorem findV_miss {vs:List Vy} {s:ByteArray} {k:Nat} {p:Vy} (hp:vs[k]?=some p) (h:p.1≠s):findV (vs.take (k+1)) s=findV (vs.take k) s:=by
 unfold findV;rw [List.take_add_one,hp];simp [h]
def VFindPost (vs:List Vy) (s:ByteArray) (w:World) (e:Ending) (w':World):Prop :=
 (∃ nm n o,e=.returned (.tuple #[.agg #[.string nm,.int .i64 n,.int .i64 0],.bool o])/\((findV vs s=none/\o=false/\nm={ data:=#[] }/\n=0)\/(findV vs s=some (nm,n)/\o=true)))/\Below w.heap.size w w'
theorem vfind_ret {f:Func} {w:World} {b:Nat} {x y z:Value} {o:Bool} {act:Act} {R:Ending->World->Prop} (hf:f.results=#[.cell 4 94,.tmp 5]) (hb:w.heap[b]?=some (.cells #[x,y,z] 94 (0,0))) (h1:act.tmps[5]?=some (.bool o)) (h2:act.tmps[4]?=some (.pointer (some ⟨b,0,none⟩))) (hd:act.defers=[]) (hR:R (.returned (.tuple #[.agg #[x,y,z],.bool o])) w) :
  bodyPost Tryz.prog f R .ret act w:=by
 obtain ⟨y0,y1,y2,_⟩:=Bk.c3 hb;refine bodyPost_ret (v:=.tuple #[.agg #[x,y,z],.bool o]) ?_ hd hR;simp [results,hf,go_sem,y0,y1,y2,h1,h2]
theorem vfind_any {w:World} {A:Option Addr} {vs:List Vy} (c:Nat) (h:Lies 3 VarR w A vs) (hl:vs.length<=10000000) (s:ByteArray) :
  Calls Tryz.prog 143 #[.slice A vs.length c,.string s] w (VFindPost vs s w):=by
 have B1:=kp ((brq w).alloc nlq (.cells #[.string { data:=#[] },.int .i64 0,.int .i64 0] 94));have R1:=kp (Bk.new w (.cells #[.string { data:=#[] },.int .i64 0,.int .i64 0] 94));have L1:=kp (h.on VarR.lasts B1.out);have HPo:=kp (show ∀ nm n o w',((findV vs s=none/\o=false/\nm={ data:=#[] }/\n=0)\/(findV vs s=some (nm,n)/\o=true))->Below w.heap.size w w'->VFindPost vs s w (.returned (.tuple #[.agg #[.string nm,.int .i64 n,.int .i64 0],.bool o])) w' from fun nm n o w' h1 h2=>⟨⟨nm,n,o,rfl,h1⟩,h2⟩);have HF0:=kp (show findV vs s=findV (vs.take vs.length) s by rw [List.take_length]);clear h;generalize VFindPost vs s w=PP at *;generalize hfd:findV vs s=fd at *;clear hfd
 go_enter Tryz.func143,Tryz.ntmps143
 go_upto_region 1 with fail
 generalize w.alloc (.cells #[.string { data:=#[] },.int .i64 0,.int .i64 0] 94)=w1 at *;obtain ⟨r0,r1,r2,rf⟩:=Bk.c3 R1.out;go_wp2_with fail
 go_loop [6] (fun v=>∃ k:Nat,k<=vs.length/\v=.int .i64 ((k:Int) - 1)/\fd=findV (vs.take k) s) (fun v=>(intOf v+1).toNat)
 case atStart=>exact⟨vs.length,nlq,rfl,HF0.out⟩
 case round =>
  obtain ⟨k,hk,rfl,hn⟩:=hrel;have HK:=kp hn;clear hn
  cases k with
  | zero =>
   have HQ:=kp (show fd=none from HK.out);go_wp2_with fail
   refine vfind_ret (b:=w.heap.size) (o:=false) Tryz.results143 (Bk.set_at (Bk.set_at (Bk.set_at R1.out 0 _) 1 _) 2 _) rfl rfl rfl ?_;exact HPo.out _ _ _ _ (.inl ⟨HQ.out,rfl,rfl,rfl⟩) (((B1.out.setCell (p:=⟨w.heap.size,0,none⟩) nlq _).setCell (p:=⟨w.heap.size,1,none⟩) nlq _).setCell (p:=⟨w.heap.size,2,none⟩) nlq _)
  | succ k =>
   obtain ⟨p,hp⟩:∃ p,vs[k]?=some p:=⟨_,gqe (by omega)⟩;obtain ⟨b,o,rfl,hbl,⟨e0,e1,e2⟩,hps,hpi⟩:=var_get L1.out hp;have HP:=kp hp;have hc:((k+1:Nat):Int) - 1=(k:Int):=by omega
   have hlt2:(k:Int) < (vs.length:Int):=by omega
   obtain ⟨pn,pi⟩:=p;clear hp;rw [hc];clear hc
   by_cases hq:pn=s
   ·have HQ:=kp (HK.out.trans (findV_hit HP.out hq));subst hq;go_wp2_with fail
    refine vfind_ret (b:=w.heap.size) (o:=true) Tryz.results143 (Bk.set_at (Bk.set_at (Bk.set_at R1.out 0 _) 1 _) 2 _) rfl rfl rfl ?_;exact HPo.out _ _ _ _ (.inr ⟨HQ.out,rfl⟩) (((B1.out.setCell (p:=⟨w.heap.size,0,none⟩) nlq _).setCell (p:=⟨w.heap.size,1,none⟩) nlq _).setCell (p:=⟨w.heap.size,2,none⟩) nlq _)
   ·have hq1:=text_ne hq;have HQ:=kp (HK.out.trans (findV_miss HP.out hq));go_wp2_with fail
    go_round
    case rel=>exact⟨k,by omega,rfl,HQ.out⟩
    case measure=>simp [intOf]
end El
end Go.Proofs.YtpmdcckapddchaaGreat
