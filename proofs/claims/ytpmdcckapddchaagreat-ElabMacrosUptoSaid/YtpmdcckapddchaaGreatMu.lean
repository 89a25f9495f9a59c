import Derived.Test.YtpmdcckapddchaaGreatShort
import Derived.Test.YtpmdcckapddchaaGreatMr
import Derived.Test.YtpmdcckapddchaaGreatMm
import Derived.Test.YtpmdcckapddchaaGreatMp
import Derived.Test.YtpmdcckapddchaaGreatMg
import Derived.Test.YtpmdcckapddchaaGreatMd
import Derived.Test.YtpmdcckapddchaaGreatMh
import Derived.Test.YtpmdcckapddchaaGreatMb
/- merged by wip/merge.py from: TySort TyTable ElTop ElMac2 ElSorts ElMk ElWake Law7List RTySort -/
/- The sort that a node has: the program's answer. -/
namespace Go.Proofs.YtpmdcckapddchaaGreat.El
open Go.RowKit Go.Proofs.YtpmdcckapddchaaGreat.Dt Go.Proofs.YtpmdcckapddchaaGreat.Sg
theorem arity_three {op:Int} {p:Int × Int} (h:arityN op=some p):0≤p.1∧p.2≤3:=by
 unfold arityN at h
 repeat' split at h
 all_goals first | (cases h;exact⟨by decide,by decide⟩) | cases h
theorem stands_len {n:Node} {a:Int} (h:standsN n a=true):0≤n.len∧n.len≤3:=by
 unfold standsN at h
 cases ho:arityN n.op with
 | none=>rw [ho] at h;cases h
 | some p =>
  rw [ho] at h;simp only [Bool.and_eq_true,decide_eq_true_eq] at h;have:=arity_three ho;have:=h.1.1.1.1.1.1.1
  omega
theorem stands_arg {n:Node} {a:Int} (h:standsN n a=true) {i:Nat} (hi:(i:Int) < n.len):0≤n.arg i∧n.arg i < a:=by
 have hl:=stands_len h;unfold standsN at h
 cases ho:arityN n.op with
 | none=>rw [ho] at h;cases h
 | some p =>
  rw [ho] at h;simp only [Bool.and_eq_true] at h;have h0:=h.1.1.1.1.1.2;have h1:=h.1.1.1.1.2;have h2:=h.1.1.1.2;have hc:i=0∨i=1∨i=2:=by omega
  rcases hc with rfl | rfl | rfl
  ·unfold argOkB at h0;rw [if_pos hi] at h0;exact of_decide_eq_true h0
  ·unfold argOkB at h1;rw [if_pos hi] at h1;exact of_decide_eq_true h1
  ·unfold argOkB at h2;rw [if_pos hi] at h2;exact of_decide_eq_true h2
theorem NodeAt.arg' {w:World} {b o:Nat} {n:Node} (h:NodeAt w b o n) {i:Nat} (hi:i < 3):w.cell? ⟨b,o+2+i,none⟩=some (.int .i64 (n.arg i)):=by
 obtain ⟨hl,h0,h1,h2,h3,h4,h5⟩:=h;have hc:i=0∨i=1∨i=2:=by omega
 rcases hc with rfl | rfl | rfl
 ·exact h2
 ·exact h3
 ·exact h4
def sortsTo (t:List Node) (n:Node) (k:Nat):List Int:=(List.range k).map fun i=>(t.getD (n.arg i).toNat nodeTrue).sort
theorem sortsTo_len (t:List Node) (n:Node) (k:Nat):(sortsTo t n k).length=k:=by unfold sortsTo;simp
theorem sortsTo_succ (t:List Node) (n:Node) (k:Nat):sortsTo t n (k+1)=sortsTo t n k ++ [(t.getD (n.arg k).toNat nodeTrue).sort]:=by unfold sortsTo;rw [List.range_succ,List.map_append];rfl
def sortProg (g:Sig) (t:List Node) (n:Node):Int × Int:=if n.op=13 then appProg g n.fn (sortsTo t n n.len.toNat) else opProg n.op (sortsTo t n n.len.toNat)
def SortPost (g:Sig) (t:List Node) (n:Node) (w:World) (e:Ending) (w':World):Prop:=e=.returned (.tuple #[.int .i64 (sortProg g t n).1,.bool (decide ((sortProg g t n).2=0))])∧Below w.heap.size w w'
theorem run_make3 (W:World):(Instr.makeSlice 111 (.int .i64 0) (.int .i64 3)).run Tryz.prog W=.ok (.slice (some ⟨W.heap.size,0,none⟩) 0 3) (W.alloc (.cells #[.int .i64 0,.int .i64 0,.int .i64 0] 3)):=by kernel_rfl
theorem owns_made (w:World) (vs:Array Value) (e:TypeId) (n:Nat) (hn:vs.size=n) (hm:n≤maxLen):(w.alloc (.cells vs e)).ownsRow w.heap.size e 1 (.slice (some ⟨w.heap.size,0,none⟩) 0 n) 0 [] :=
 ⟨by simp,.inr ⟨w.heap.size,n,vs,rfl,Nat.le_refl _,by show(w.heap.push _)[w.heap.size]?=_;exact Array.getElem?_push_size,Nat.zero_le _,hm,by rw [hn,Nat.mul_one],by simp⟩⟩
set_option maxRecDepth 100000 in
set_option maxHeartbeats 6400000 in
theorem tysort_any {w:World} {A1 A2 A3:Option Addr} {c1 c2 c3:Nat} {g:Sig} (h:SigAt w A1 c1 A2 c2 A3 c3 g) (hg:checkE g=0) (hl1:g.sorts.length≤1000000) (hl2:g.funs.length≤1000000) (hl3:g.macros.length≤1000000) {A:Option Addr} {t:List Node} (c:Nat) (ht:Lies 8 NodeR w A t) {n:Node} (hi:NodeI n) {a:Int} (hs:standsN n a=true) (ha:a≤t.length) :
  Calls Tryz.prog 44 #[.agg #[.slice A1 g.sorts.length c1,.slice A2 g.funs.length c2,.slice A3 g.macros.length c3],.agg #[.slice A t.length c],nodeV n] w (SortPost g t n w):=by
 obtain ⟨i0,hi0,z0,z1,z2⟩:=info_parts info_int;have I0:=kp hi0;have I1:=kp z0;have I2:=kp z1;have I3:=kp z2;clear hi0 z0 z1 z2;obtain ⟨hlen0,hlen3⟩:=stands_len hs
 have HP:=kp (show ∀ (x y:Int) (b:Bool) w',sortProg g t n=(x,y)→decide (y=0)=b→Below w.heap.size w w'→SortPost g t n w (.returned (.tuple #[.int .i64 x,.bool b])) w' from fun x y b w' h1 h2 h3=>by
  unfold SortPost;rw [h1];exact⟨by rw [← h2],h3⟩)
 have HArg:=kp (fun(i:Nat) (h:(i:Int) < n.len)=>stands_arg hs h);have HT:=kp ht;have HS:=kp h;have HI:=kp hi;have HA:=kp (show sortProg g t n=if n.op=13 then appProg g n.fn (sortsTo t n n.len.toNat) else opProg n.op (sortsTo t n n.len.toNat) from rfl);have HApp:=kp (fun W (hW:Below w.heap.size w W) A l c hl hn=>tyapp_any (h.on hW) hg hl1 hl2 hl3 (A:=A) (l:=l) c n.fn hi.fn hl hn);have HOp:=kp (fun W A l c hl hn hc hcm=>tyop_any (w:=W) (A:=A) (l:=l) (c:=c) n.op hi.op hl hn hc hcm);clear hs h hg ht hi;obtain ⟨m,hm⟩:∃ m:Nat,n.len=(m:Int):=⟨n.len.toNat,by omega⟩;rw [hm] at HA HArg hlen0 hlen3;rw [Int.toNat_natCast] at HA;have hm3:m≤3:=by omega
 have HMk:=run_make3;unfold nodeV;rw [hm];generalize SortPost g t n w=PP at *;generalize sortProg g t n=res at *;have S1:=kp (Bk.new w (.cells #[.slice A1 g.sorts.length c1,.slice A2 g.funs.length c2,.slice A3 g.macros.length c3] 26));have S2:=kp (Bk.keep (Bk.keep S1.out (.cells #[.slice A t.length c] 38)) (.cells #[.int .i8 n.op,.int .i8 (m:Int),.int .i64 n.a0,.int .i64 n.a1,.int .i64 n.a2,.int .i64 n.sort,.int .i64 n.fn,.int .i64 n.n] 55));have T1:=kp (Bk.new (w.alloc (.cells #[.slice A1 g.sorts.length c1,.slice A2 g.funs.length c2,.slice A3 g.macros.length c3] 26)) (.cells #[.slice A t.length c] 38));have T2:=kp (Bk.keep T1.out (.cells #[.int .i8 n.op,.int .i8 (m:Int),.int .i64 n.a0,.int .i64 n.a1,.int .i64 n.a2,.int .i64 n.sort,.int .i64 n.fn,.int .i64 n.n] 55));have N2:=kp (Bk.new ((w.alloc (.cells #[.slice A1 g.sorts.length c1,.slice A2 g.funs.length c2,.slice A3 g.macros.length c3] 26)).alloc (.cells #[.slice A t.length c] 38)) (.cells #[.int .i8 n.op,.int .i8 (m:Int),.int .i64 n.a0,.int .i64 n.a1,.int .i64 n.a2,.int .i64 n.sort,.int .i64 n.fn,.int .i64 n.n] 55));have B2:=kp ((((Below.refl w.heap.size w).alloc (Nat.le_refl _) (.cells #[.slice A1 g.sorts.length c1,.slice A2 g.funs.length c2,.slice A3 g.macros.length c3] 26)).alloc (by simp) (.cells #[.slice A t.length c] 38)).alloc (by simp;omega) (.cells #[.int .i8 n.op,.int .i8 (m:Int),.int .i64 n.a0,.int .i64 n.a1,.int .i64 n.a2,.int .i64 n.sort,.int .i64 n.fn,.int .i64 n.n] 55))
 rw [show(w.alloc (.cells #[.slice A1 g.sorts.length c1,.slice A2 g.funs.length c2,.slice A3 g.macros.length c3] 26)).heap.size=w.heap.size+1 by simp] at T2;rw [show((w.alloc (.cells #[.slice A1 g.sorts.length c1,.slice A2 g.funs.length c2,.slice A3 g.macros.length c3] 26)).alloc (.cells #[.slice A t.length c] 38)).heap.size=w.heap.size+2 by simp] at N2;have Z2:=kp (show(((w.alloc (.cells #[.slice A1 g.sorts.length c1,.slice A2 g.funs.length c2,.slice A3 g.macros.length c3] 26)).alloc (.cells #[.slice A t.length c] 38)).alloc (.cells #[.int .i8 n.op,.int .i8 (m:Int),.int .i64 n.a0,.int .i64 n.a1,.int .i64 n.a2,.int .i64 n.sort,.int .i64 n.fn,.int .i64 n.n] 55)).heap.size=w.heap.size+3 by simp);clear S1 T1
 go_enter Tryz.func44,Tryz.ntmps44
 go_upto_region 1 with fail
 generalize ((w.alloc (.cells #[.slice A1 g.sorts.length c1,.slice A2 g.funs.length c2,.slice A3 g.macros.length c3] 26)).alloc (.cells #[.slice A t.length c] 38)).alloc (.cells #[.int .i8 n.op,.int .i8 (m:Int),.int .i64 n.a0,.int .i64 n.a1,.int .i64 n.a2,.int .i64 n.sort,.int .i64 n.fn,.int .i64 n.n] 55)=w2 at *;go_upto_region 2 with fail
 have S3:=kp (Bk.keep S2.out (.cells #[.int .i64 0,.int .i64 0,.int .i64 0] 3));have T3:=kp (Bk.keep T2.out (.cells #[.int .i64 0,.int .i64 0,.int .i64 0] 3));have N3:=kp (Bk.keep N2.out (.cells #[.int .i64 0,.int .i64 0,.int .i64 0] 3));have B3:=kp (B2.out.alloc (by rw [Z2.out];omega) (.cells #[.int .i64 0,.int .i64 0,.int .i64 0] 3));have O3:=kp (show World.ownsRow (w2.alloc (.cells #[.int .i64 0,.int .i64 0,.int .i64 0] 3)) (w.heap.size+3) 3 1 (.slice (some ⟨w.heap.size+3,0,none⟩) 0 3) 0 [] by have h:=owns_made w2 #[.int .i64 0,.int .i64 0,.int .i64 0] 3 3 rfl (by unfold maxLen;omega);rwa [Z2.out] at h);have Z3:=kp (show w.heap.size+4≤(w2.alloc (.cells #[.int .i64 0,.int .i64 0,.int .i64 0] 3)).heap.size by simp [Z2.out]);try rw [Z2.out]
 clear S2 T2 N2 B2;generalize w2.alloc (.cells #[.int .i64 0,.int .i64 0,.int .i64 0] 3)=w3 at *;clear Z2;obtain ⟨q0,q1,q2,q3,q4,q5,q6,q7,qf⟩:=Bk.c8 N3.out;have hm128:(m:Int) < 128:=by omega
 go_wp2_with fail
 go_loopw [8,19] (fun v' i' wr=>∃ k:Nat,k≤m∧i'=.int .i64 k∧v'=.slice (some ⟨w.heap.size+3,0,none⟩) k 3∧wr.ownsRow (w.heap.size+3) 3 1 (.slice (some ⟨w.heap.size+3,0,none⟩) k 3) k ((sortsTo t n k).map (Value.int .i64))∧Below (w.heap.size+3) w3 wr) (fun _ i' _=>m - (intOf i').toNat)
 case atStart=>exact⟨0,Nat.zero_le _,rfl,rfl,O3.out,Below.refl _ _⟩
 case round =>
  obtain ⟨k,hk,rfl,rfl,ho,hb⟩:=hrel;have HO:=kp ho;have HB:=kp hb;have HBw:=kp (B3.out.trans (hb.mono (by omega)));have NR:=kp (Bk.on' N3.out hb (by omega));have TR:=kp (Bk.on' T3.out hb (by omega));have SR:=kp (Bk.on' S3.out hb (by omega));clear ho hb q0 q1 q2 q3 q4 q5 q6 q7 qf
  by_cases hlt:k < m
  ·have hlt2:(k:Int) < (m:Int):=by omega
   have hk3:k < 3:=by omega
   have p1:=NodeAt.arg' (node_block (n:=⟨n.op,m,n.a0,n.a1,n.a2,n.sort,n.fn,n.n⟩) NR.out) hk3;rw [Nat.zero_add,show Node.arg ⟨n.op,m,n.a0,n.a1,n.a2,n.sort,n.fn,n.n⟩ k=n.arg k from rfl] at p1;have ha1:=HArg.out k hlt2;have HSs:=kp (sortsTo_succ t n k);generalize n.arg k=y at *;obtain ⟨j,rfl⟩:∃ j:Nat,y=(j:Int):=⟨y.toNat,by omega⟩;rw [Int.toNat_natCast] at HSs;have hj:j < t.length:=by omega
   obtain ⟨x,hx⟩:∃ x,t[j]?=some x:=⟨_,List.getElem?_eq_getElem hj⟩;rw [List.getD_eq_getElem?_getD,hx,Option.getD_some] at HSs;obtain ⟨b,o,hA,hxa,hxi⟩:=node_get (HT.out.on NodeR.lasts HBw.out) hx;subst hA;have HX:=kp hxa;have OA:=kp (show World.ownsRow (wr.alloc (.cells #[.int .i64 x.sort] 3)) (w.heap.size+3) 3 1 (.slice (some ⟨w.heap.size+3,0,none⟩) k 3) k ((sortsTo t n k).map (Value.int .i64)) from HO.out.alloc _)
   have NC:=kp (show ∀ (q:Nat) u,[Value.int .i64 x.sort][q]?=some u→(wr.alloc (.cells #[.int .i64 x.sort] 3)).cell? (Addr.add ⟨wr.heap.size,0,none⟩ q)=some u from fun q u hu=>by
    rw [Addr.add_lit,Nat.zero_add,World.cell?_alloc_mark];simpa using hu)
   have hj2:(j:Int) < (t.length:Int):=by omega
   obtain ⟨t0,tf⟩:=Bk.c1 TR.out;obtain ⟨_,_,_,_,_,_,q5,_,_⟩:=HX.out;clear hx hxa ha1
   go_wp2_with (at_builtin;refine wpList_append_fits _ rfl (.tmp 23) (.tmp 30) _ rfl (w.heap.size+3) 3 i0 1 Tryz.underlying111 I0.out I2.out (w.heap.size+3) k 3 ((sortsTo t n k).map (Value.int .i64)) rfl OA.out ⟨wr.heap.size,0,none⟩ 1 1 [.int .i64 x.sort] rfl rfl NC.out (by simp [Value.oneCell']) (by omega) ?_)
   intro w5 hown hgr;have HO5:=kp (show w5.ownsRow (w.heap.size+3) 3 1 (.slice (some ⟨w.heap.size+3,0,none⟩) (k+1) 3) (k+1) ((sortsTo t n (k+1)).map (Value.int .i64)) by rw [HSs.out,List.map_append];exact hown);have HB5:=kp ((HB.out.alloc (by have:=Z3.out;have:=HB.out.size;omega) (.cells #[.int .i64 x.sort] 3)).grown hgr (by have:=Z3.out;have:=HB.out.size;simp;omega) (fun j hj=>by cases hj;omega));clear hown hgr t0 tf q5 p1;go_wp2_with fail
   go_roundw
   case rel=>exact⟨k+1,by omega,by go_num,rfl,HO5.out,HB5.out⟩
   case measure=>simp [intOf];omega
  ·obtain rfl:k=m:=by omega
   have HLn:=kp (sortsTo_len t n k);have HCl:=kp (Cells.own HO.out);obtain ⟨q0,q1,q2,q3,q4,q5,q6,q7,qf⟩:=Bk.c8 NR.out;obtain ⟨s0,s1,s2,sf⟩:=Bk.c3 SR.out;generalize sortsTo t n k=l at *
   by_cases ho:n.op=13
   ·have hop:(n.op == 13)=true:=by rw [ho];rfl
    have HAp:=kp (HApp.out wr HBw.out _ l 3 HCl.out (by have:=HLn.out;omega));rw [HLn.out] at HAp;have HE:=kp (HA.out.trans (if_pos ho));unfold AppPost at HAp;generalize n.fn=fn at *;generalize n.op=op at *;clear ho;generalize appProg g fn l=r at *;obtain ⟨r1,r2⟩:=r;go_wp2_with fail
    refine HAp.out.mono ?_;rintro e w6 ⟨rfl,hb6⟩;have B6:=kp (HBw.out.trans (hb6.mono HBw.out.size));clear hb6;go_wp2_with fail
    exact HP.out _ _ _ _ HE.out rfl B6.out
   ·have hop:(n.op == 13)=false:=by rw [beq_eq_false_iff_ne];exact ho
    have HAp:=kp (HOp.out wr _ l 3 HCl.out (by have:=HLn.out;omega) (by have:=HLn.out;omega) (by unfold maxLen;omega));rw [HLn.out] at HAp;have HE:=kp (HA.out.trans (if_neg ho));unfold OpPost at HAp;generalize n.op=op at *;clear ho;generalize opProg op l=r at *;obtain ⟨r1,r2⟩:=r;go_wp2_with fail
    refine HAp.out.mono ?_;rintro e w6 ⟨rfl,hb6⟩;have B6:=kp (HBw.out.trans (hb6.mono HBw.out.size));clear hb6;go_wp2_with fail
    exact HP.out _ _ _ _ HE.out rfl B6.out
def sortedN (g:Sig) (t:List Node) (n:Node):Bool:=decide ((sortProg g t n).2=0) && decide ((sortProg g t n).1=n.sort)
def sortedB (g:Sig) (t:List Node):Bool:=t.all fun n=>sortedN g t n
def tableE (g:Sig) (t:List Node):Int:=if checkE g≠0∨checkTE t≠0 then 2 else if sortedB g t then 0 else 33
theorem sortedB_stop {g:Sig} {t:List Node} {k:Nat} {n:Node} (hn:t[k]?=some n) (h:sortedN g t n=false):sortedB g t=false:=by
 unfold sortedB;rw [List.all_eq_false];exact⟨n,List.mem_of_getElem? hn,by rw [h];simp⟩
theorem sortedB_all {g:Sig} {t:List Node} (h:∀ k n,k < t.length→t[k]?=some n→sortedN g t n=true):sortedB g t=true:=by
 unfold sortedB;rw [List.all_eq_true];intro x hx;obtain ⟨k,hk⟩:=List.getElem?_of_mem hx;exact h k x (List.getElem?_eq_some_iff.1 hk).1 hk
theorem check_stands {t:List Node} (h:checkTE t=0) {k:Nat} {n:Node} (hn:t[k]?=some n):standsN n k=true:=by
 unfold checkTE at h
 split at h
 ·rename_i hc
  unfold checkT at hc;simp only [Bool.and_eq_true] at hc;have h2:=hc.1.2;unfold standsTo at h2;rw [List.all_eq_true] at h2;have:=h2 k (List.mem_range.2 (List.getElem?_eq_some_iff.1 hn).1)
  rwa [hn] at this
 ·cases h
set_option maxRecDepth 100000 in
set_option maxHeartbeats 6400000 in
theorem tytable_any {w:World} {A1 A2 A3:Option Addr} {c1 c2 c3:Nat} {g:Sig} (h:SigAt w A1 c1 A2 c2 A3 c3 g) (hl1:g.sorts.length≤1000000) (hl2:g.funs.length≤1000000) (hl3:g.macros.length≤1000000) {A:Option Addr} {t:List Node} {c:Nat} (ht:Lies 8 NodeR w A t) (hn:t.length≤1000000) (hc:t.length≤c) (hcm:c≤maxLen) :
  Calls Tryz.prog 28 #[.agg #[.slice A1 g.sorts.length c1,.slice A2 g.funs.length c2,.slice A3 g.macros.length c3],.agg #[.slice A t.length c]] w fun e w'=>e=.returned (.int .i64 (tableE g t))∧Below w.heap.size w w':=by
 have HE:=kp (show tableE g t=if checkE g≠0∨checkTE t≠0 then 2 else if sortedB g t then 0 else 33 from rfl);have HT:=kp ht;have HS:=kp h;have HCs:=kp (fun W (hW:Below w.heap.size w W)=>check_any (h.on hW) (by omega) (by omega) (by omega));have HCt:=kp (fun W (hW:Below w.heap.size w W)=>tcheck_any (ht.on NodeR.lasts hW) hn hc hcm);have HSt:=kp (fun(hz:checkTE t=0) k n hk=>check_stands hz (k:=k) (n:=n) hk);have HSo:=kp (fun(hg:checkE g=0) W (hW:Below w.heap.size w W) n (hi:NodeI n) (a:Int) (hs:standsN n a=true) (ha:a≤t.length)=>tysort_any (h.on hW) hg hl1 hl2 hl3 c (ht.on NodeR.lasts hW) hi hs ha);have S1:=kp (Bk.keep (Bk.new w (.cells #[.slice A1 g.sorts.length c1,.slice A2 g.funs.length c2,.slice A3 g.macros.length c3] 26)) (.cells #[.slice A t.length c] 38));have T1:=kp (Bk.new (w.alloc (.cells #[.slice A1 g.sorts.length c1,.slice A2 g.funs.length c2,.slice A3 g.macros.length c3] 26)) (.cells #[.slice A t.length c] 38));rw [show(w.alloc (.cells #[.slice A1 g.sorts.length c1,.slice A2 g.funs.length c2,.slice A3 g.macros.length c3] 26)).heap.size=w.heap.size+1 by simp] at T1;have B1:=kp (((Below.refl w.heap.size w).alloc (Nat.le_refl _) (.cells #[.slice A1 g.sorts.length c1,.slice A2 g.funs.length c2,.slice A3 g.macros.length c3] 26)).alloc (by simp) (.cells #[.slice A t.length c] 38));have Z1:=kp (show w.heap.size+2≤((w.alloc (.cells #[.slice A1 g.sorts.length c1,.slice A2 g.funs.length c2,.slice A3 g.macros.length c3] 26)).alloc (.cells #[.slice A t.length c] 38)).heap.size by simp)
 clear h ht;generalize tableE g t=res at *;have HAll:=kp (fun h=>sortedB_all (g:=g) (t:=t) h);have HStop:=kp (fun k n hn h=>sortedB_stop (g:=g) (t:=t) (k:=k) (n:=n) hn h);generalize sortedB g t=sb at *
 go_enter Tryz.func28,Tryz.ntmps28
 go_upto_region 1 with fail
 generalize (w.alloc (.cells #[.slice A1 g.sorts.length c1,.slice A2 g.funs.length c2,.slice A3 g.macros.length c3] 26)).alloc (.cells #[.slice A t.length c] 38)=w1 at *;obtain ⟨s0,s1,s2,sf⟩:=Bk.c3 S1.out;go_wp2_with fail
 refine(HCs.out w1 B1.out).mono ?_;rintro e w2 ⟨rfl,hb2⟩;have B2:=kp (B1.out.trans (hb2.mono B1.out.size));have S2:=kp (Bk.on S1.out hb2);have T2:=kp (Bk.on T1.out hb2);have Z2:=kp (Nat.le_trans Z1.out hb2.size);clear hb2 s0 s1 s2 sf S1 T1 Z1;generalize checkE g=cg at *
 by_cases hg:cg=0
 ·have hg':(cg != 0)=false:=by simp [hg]
  have HG:=kp hg;clear hg;obtain ⟨t0,tf⟩:=Bk.c1 T2.out;go_wp2_with fail
  refine(HCt.out w2 B2.out).mono ?_;rintro e w3 ⟨rfl,hb3⟩;have B3:=kp (B2.out.trans (hb3.mono B2.out.size));have S3:=kp (Bk.on S2.out hb3);have T3:=kp (Bk.on T2.out hb3);have Z3:=kp (Nat.le_trans Z2.out hb3.size);clear hb3 t0 tf S2 T2 Z2;generalize checkTE t=ct at *
  by_cases hct:ct=0
  ·have hct':(ct != 0)=false:=by simp [hct]
   replace HE:=kp (HE.out.trans (if_neg (by rw [HG.out,hct];simp)));have HSt2:=kp (HSt.out hct);clear hct HSt;obtain ⟨t0,tf⟩:=Bk.c1 T3.out;go_wp2_with fail
   go_loopw [20] (fun i' wr=>∃ k:Nat,k≤t.length∧i'=.int .i64 k∧Below (w.heap.size+2) w3 wr∧∀ j n,j < k→t[j]?=some n→sortedN g t n=true) (fun i' _=>t.length - (intOf i').toNat)
   case atStart=>exact⟨0,Nat.zero_le _,rfl,Below.refl _ _,fun j n hj=>by omega⟩
   case round =>
    obtain ⟨k,hk,rfl,hb,hto⟩:=hrel;have HTo:=kp hto;have HB:=kp hb;have HBw:=kp (B3.out.trans (hb.mono (by omega)));have SR:=kp (Bk.on' S3.out hb (by omega));have TR:=kp (Bk.on' T3.out hb (by omega));clear hb t0 tf hto
    by_cases hlt:k < t.length
    ·have hlt2:(k:Int) < (t.length:Int):=by omega
     obtain ⟨n,hn2⟩:∃ n,t[k]?=some n:=⟨_,List.getElem?_eq_getElem hlt⟩;obtain ⟨b,o,hA,hxa,hxi⟩:=node_get (HT.out.on NodeR.lasts HBw.out) hn2;subst hA;have HX:=kp hxa;have HSn:=kp (HSt2.out k n hn2);have HI:=kp hxi
     have HTk:=kp (show sortedN g t n=true→∀ j m,j < k+1→t[j]?=some m→sortedN g t m=true from fun he j m hj hm=>by
      by_cases h:j < k
      ·exact HTo.out j m h hm
      ·obtain rfl:j=k:=by omega
       rw [hn2] at hm;cases hm;exact he)
     have HNk:=kp (fun hf=>HStop.out k n hn2 hf);obtain ⟨_,x0,x1,x2,x3,x4,x5,x6,x7⟩:=hxa;have NB:=kp (Bk.new wr (.cells #[.int .i8 n.op,.int .i8 n.len,.int .i64 n.a0,.int .i64 n.a1,.int .i64 n.a2,.int .i64 n.sort,.int .i64 n.fn,.int .i64 n.n] 55));have SB:=kp (Bk.keep SR.out (.cells #[.int .i8 n.op,.int .i8 n.len,.int .i64 n.a0,.int .i64 n.a1,.int .i64 n.a2,.int .i64 n.sort,.int .i64 n.fn,.int .i64 n.n] 55));have TB:=kp (Bk.keep TR.out (.cells #[.int .i8 n.op,.int .i8 n.len,.int .i64 n.a0,.int .i64 n.a1,.int .i64 n.a2,.int .i64 n.sort,.int .i64 n.fn,.int .i64 n.n] 55));have HBn:=kp (HB.out.alloc (by have:=Z3.out;have:=HB.out.size;omega) (.cells #[.int .i8 n.op,.int .i8 n.len,.int .i64 n.a0,.int .i64 n.a1,.int .i64 n.a2,.int .i64 n.sort,.int .i64 n.fn,.int .i64 n.n] 55));have BN:=kp (HBw.out.alloc HBw.out.size (.cells #[.int .i8 n.op,.int .i8 n.len,.int .i64 n.a0,.int .i64 n.a1,.int .i64 n.a2,.int .i64 n.sort,.int .i64 n.fn,.int .i64 n.n] 55));have HSn2:=kp (fun W hW=>HSo.out HG.out W hW n HI.out k HSn.out (by omega));unfold nodeV SortPost at HSn2;have HSd:=kp (show sortedN g t n=(decide ((sortProg g t n).2=0) && decide ((sortProg g t n).1=n.sort)) from rfl);clear hn2 hxi;generalize sortedN g t n=sn at *;generalize sortProg g t n=r at *;obtain ⟨r1,r2⟩:=r;obtain ⟨t0,tf⟩:=Bk.c1 TR.out;go_upto_region 6 with fail
     have hwn:wr.heap.size < (wr.alloc (.cells #[.int .i8 n.op,.int .i8 n.len,.int .i64 n.a0,.int .i64 n.a1,.int .i64 n.a2,.int .i64 n.sort,.int .i64 n.fn,.int .i64 n.n] 55)).heap.size:=by simp
     generalize wr.alloc (.cells #[.int .i8 n.op,.int .i8 n.len,.int .i64 n.a0,.int .i64 n.a1,.int .i64 n.a2,.int .i64 n.sort,.int .i64 n.fn,.int .i64 n.n] 55)=wn at *;clear x0 x1 x2 x3 x4 x5 x6 x7 t0 tf;obtain ⟨t0,tf⟩:=Bk.c1 TB.out;obtain ⟨s0,s1,s2,sf⟩:=Bk.c3 SB.out;obtain ⟨x0,x1,x2,x3,x4,x5,x6,x7,xf⟩:=Bk.c8 NB.out;go_wp2_with fail
     refine(HSn2.out wn BN.out).mono ?_;rintro e w6 ⟨rfl,hb6⟩;have B6:=kp (BN.out.trans (hb6.mono BN.out.size));have H6:=kp (HBn.out.trans (hb6.mono (by have:=Z3.out;have:=HBn.out.size;omega)));have N6:=kp (Bk.on NB.out hb6);clear hb6 t0 tf s0 s1 s2 sf x0 x1 x2 x3 x4 x5 x6 x7 xf;obtain ⟨x0,x1,x2,x3,x4,x5,x6,x7,xf⟩:=Bk.c8 N6.out
     by_cases hr2:r2=0
     ·have hr2':decide (r2=0)=true:=by simp [hr2]
      by_cases hr1:r1=n.sort
      ·have hr1':(r1 != n.sort)=false:=by simp [hr1]
       have HQ:=kp (HTk.out (by rw [HSd.out,hr2,hr1];simp));clear hr2 hr1;go_wp2_with fail
       go_roundw
       case rel=>exact⟨k+1,by omega,by go_num,H6.out,HQ.out⟩
       case measure=>simp [intOf];omega
      ·have hr1':(r1 != n.sort)=true:=by simp [hr1]
       have HQ:=kp (HNk.out (by rw [HSd.out];simp [hr1]));clear hr2 hr1;rw [HQ.out] at HE;go_wp2_with fail
       go_ret;exact⟨ret_int HE.out.symm,B6.out⟩
     ·have hr2':decide (r2=0)=false:=by simp [hr2]
      have HQ:=kp (HNk.out (by rw [HSd.out];simp [hr2]));clear hr2;rw [HQ.out] at HE;go_wp2_with fail
      go_ret;exact⟨ret_int HE.out.symm,B6.out⟩
    ·have hke:k=t.length:=by omega
     have HQ:=kp (show sb=true from HAll.out fun j n hj hn=>HTo.out j n (by omega) hn);rw [HQ.out] at HE;clear hke;go_wp2_with fail
     go_ret;exact⟨ret_int HE.out.symm,HBw.out⟩
  ·have hct':(ct != 0)=true:=by simp [hct]
   replace HE:=kp (HE.out.trans (if_pos (.inr hct)));clear hct;go_wp2_with fail
   go_ret;exact⟨ret_int HE.out.symm,B3.out⟩
 ·have hg':(cg != 0)=true:=by simp [hg]
  replace HE:=kp (HE.out.trans (if_pos (.inl hg)));clear hg;go_wp2_with fail
  go_ret;exact⟨ret_int HE.out.symm,B2.out⟩
def st0 (t:List Node):St:=⟨t,0,0⟩
def sortP (g:Sig) (env:Env) (x:Sexp):V × St:=termP ⟨g,0,false⟩ g.macros.length x env (st0 [])
def sortO (g:Sig) (env:Env) (x:Sexp):Int × Int :=
 if checkE g≠0∨x.may=false then(0,2)
 else if(sortP g env x).2.e=0 then((sortP g env x).1.1,0) else(0,(sortP g env x).2.e)
def envOf (vars:List Param):Env:=(vars.map fun p=>(p.name,(p.sort,(0:Int)))).reverse
def fitsO (g:Sig) (m:Macro):Int :=
 let s:=sortO g (envOf m.params) m.body
 if s.2=0∧s.1≠m.res then 33 else s.2
def makeP (g:Sig) (most:Int) (x:Sexp) (t:List Node):V × St:=termP ⟨g,most,true⟩ g.macros.length x [] (st0 t)
def termO (g:Sig) (t:List Node) (x:Sexp) (most:Int):List Node × Int × Int :=
 if tableE g t≠0 then([],0,2)
 else if(sortO g [] x).2≠0 then([],0,(sortO g [] x).2)
 else if(makeP g most x t).2.e≠0 then([],0,(makeP g most x t).2.e)
 else((makeP g most x t).2.t,(makeP g most x t).1.2,0)
def noB:ByteArray:={ data:=#[] }
def symX (s:ByteArray):Sexp:=.mk 0 s []
def pairX (s:ByteArray) (x:Sexp):Sexp:=.mk 3 noB [symX s,x]
theorem isNum_head {s:ByteArray} {l:List Sexp} (h:s≠sMinus):isNumX (.mk 3 noB (symX s :: l))=false:=by
 unfold isNumX numN;rw [if_neg (by show ¬ (3:Int)=1;decide),if_neg (by unfold headS;show ¬ (if(3:Int)=3∧(0:Int)=0 then s else _)=_;rw [if_pos (by decide)];exact h)]
 rfl
def sMac:ByteArray:={ data:=#[109,97,99] }
def callX (a b:Sexp):Sexp:=.mk 3 noB [symX sMac,a,b]
def let2X (p q:ByteArray) (a b body:Sexp):Sexp:=.mk 3 noB [symX sLet,.mk 3 noB [pairX p a,pairX q b],body]
theorem call_step {c:Cx} {known k:Nat} {m:Macro} (a b:Sexp) (st:St) (h0:st.e=0) (hf:hasB (c.g.funs.map Fun4.name) sMac=false) (hh:hasB (c.g.macros.map Macro.name) sMac=true) (hk:findAt (c.g.macros.map Macro.name) sMac=k) (hlt:k < known) (hm:c.g.macros[k]?=some m) (hp:m.params.length=2) :
  termP c known (callX a b) [] st=macroM c (termP c) m k (allM (fun x=>termP c known x []) [a,b] st).1 (allM (fun x=>termP c known x []) [a,b] st).2:=by
 rw [termP_eq];unfold termStep;rw [if_neg (by rw [h0];decide)];have h1:isNumX (callX a b)=false:=isNum_head (by decide);rw [h1,if_neg (by decide),if_pos (by unfold isListB callX symX;simp [Sexp.l,Sexp.kind])];have hs:headS (callX a b)=sMac:=by unfold headS callX symX;simp [Sexp.l,Sexp.kind,Sexp.text]
 have hr:Lx.resB (Lx.bs sMac)=false:=by decide +kernel
 have hw:wayN sMac=none:=by decide +kernel
 unfold listM;rw [hs,if_neg (by decide),if_neg (by rw [hr];decide),if_neg (by decide),hw];show(if(callX a b).l.tail.length=0 then _ else _)=_;rw [if_neg (by show ¬ (2:Nat)=0;decide)];unfold callM;rw [hf,if_neg (by decide),hk,if_pos ⟨hh,hlt⟩,hm];show(if([a,b]:List Sexp).length≠m.params.length then _ else _)=_;rw [if_neg (show ¬ ([a,b]:List Sexp).length≠m.params.length from by rw [hp];exact fun h=>h rfl)]
 rfl
theorem bound_let2 {p q:ByteArray} (a b body:Sexp) (hp:Lx.resB (Lx.bs p)=false) (hq:Lx.resB (Lx.bs q)=false) (hne:hasB [p] q=false):boundN (let2X p q a b body)=some [p,q]:=by
 unfold boundN let2X;simp only [Sexp.l,Sexp.kind];rw [if_pos ⟨trivial,by simp⟩];simp only [List.foldl_cons,List.foldl_nil,Option.bind_some]
 have hb:∀ (s:ByteArray) (x:Sexp),Lx.resB (Lx.bs s)=false→bindN (pairX s x)=some s:=fun s x hs=>by
  unfold bindN pairX symX;simp only [Sexp.l,Sexp.kind,Sexp.text];rw [if_pos trivial,if_pos ⟨trivial,hs⟩]
 rw [hb p a hp,hb q b hq];show(if hasB [p] q=true then none else some ([p] ++ [q]))=_;rw [hne]
 rfl
theorem let2_step {c:Cx} {known:Nat} {p q:ByteArray} (a b body:Sexp) (st:St) (h0:st.e=0) (hp:Lx.resB (Lx.bs p)=false) (hq:Lx.resB (Lx.bs q)=false) (hne:hasB [p] q=false) :
  termP c known (let2X p q a b body) [] st=termP c known body (([p,q].zip (allM (fun x=>termP c known x []) [a,b] st).1).reverse) (allM (fun x=>termP c known x []) [a,b] st).2:=by
 rw [termP_eq];unfold termStep;rw [if_neg (by rw [h0];decide)];have h1:isNumX (let2X p q a b body)=false:=isNum_head (by decide);rw [h1,if_neg (by decide),if_pos (by unfold isListB let2X symX;simp [Sexp.l,Sexp.kind])];unfold listM;rw [if_pos (by unfold headS let2X symX;simp [Sexp.l,Sexp.kind,Sexp.text])];unfold letM;rw [bound_let2 a b body hp hq hne];have e1:((nthX (let2X p q a b body) 1).l.map secondX)=[a,b]:=rfl;have e2:nthX (let2X p q a b body) 2=body:=rfl;simp only [e1,e2,List.append_nil]
theorem table_parts {g:Sig} {t:List Node}:tableE g t=0 ↔ checkE g=0∧checkT t=true∧sortedB g t=true:=by
 unfold tableE checkTE
 by_cases h1:checkE g=0
 ·cases h2:checkT t with
  | true=>cases h3:sortedB g t <;> simp [h1]
  | false=>simp [h1]
 ·simp [h1]
theorem checkT_parts {t:List Node}:checkT t=true ↔ t.take 2=newT∧standsTo t t.length=true∧t.Nodup:=by
 unfold checkT;simp [Bool.and_eq_true,and_assoc]
theorem standsTo_at {t:List Node} {k:Nat} (h:standsTo t t.length=true) {n:Node} (hn:t[k]?=some n):standsN n k=true:=by
 unfold standsTo at h;rw [List.all_eq_true] at h;have:=h k (List.mem_range.2 (List.getElem?_eq_some_iff.1 hn).1)
 rwa [hn] at this
theorem check_push {t:List Node} {n:Node} (h:checkT t=true) (hs:standsN n t.length=true) (hn:n ∉ t):checkT (t ++ [n])=true:=by
 obtain ⟨h1,h2,h3⟩:=checkT_parts.1 h;have hl:2≤t.length:=by have:=congrArg List.length h1;rw [List.length_take] at this;simp [newT] at this;omega
 refine checkT_parts.2 ⟨by rw [List.take_append_of_le_length hl];exact h1,?_,?_⟩
 ·unfold standsTo;rw [List.all_eq_true];intro k hk;have hk:=List.mem_range.1 hk;rw [List.length_append,List.length_singleton] at hk
  by_cases hkl:k < t.length
  ·rw [List.getElem?_append_left hkl];have:=standsTo_at h2 (List.getElem?_eq_getElem hkl);rw [List.getElem?_eq_getElem hkl];exact this
  ·obtain rfl:k=t.length:=by omega
   rw [List.getElem?_append_right (Nat.le_refl _)];simp [hs]
 ·rw [List.nodup_append]
  exact ⟨h3, by simp, fun a ha b hb => by obtain rfl : b = n := by simpa using hb
                                          intro e;subst e;exact hn ha⟩
theorem sortProg_more {g:Sig} {t u:List Node} {n:Node} {k:Nat} (hs:standsN n k=true) (hk:k≤t.length) (hu:t <+: u):sortProg g u n=sortProg g t n:=by
 obtain ⟨r,rfl⟩:=hu
 have h:sortsTo (t ++ r) n n.len.toNat=sortsTo t n n.len.toNat:=by
  unfold sortsTo;refine List.map_congr_left fun i hi=>?_;have hi:=List.mem_range.1 hi;have hl:=stands_len hs;have ha:=stands_arg hs (i:=i) (by omega);rw [List.getD_eq_getElem?_getD,List.getD_eq_getElem?_getD,List.getElem?_append_left (by omega)]
 unfold sortProg;rw [h]
theorem table_push {g:Sig} {t:List Node} {n:Node} (h:tableE g t=0) (hs:standsN n t.length=true) (hn:n ∉ t) (hp:sortProg g t n=(n.sort,0)):tableE g (t ++ [n])=0:=by
 obtain ⟨h1,h2,h3⟩:=table_parts.1 h;refine table_parts.2 ⟨h1,check_push h2 hs hn,sortedB_all fun k m hk hm=>?_⟩;unfold sortedN
 by_cases hkl:k < t.length
 ·rw [List.getElem?_append_left hkl] at hm;have hst:=standsTo_at (checkT_parts.1 h2).2.1 hm;rw [sortProg_more hst (by omega) (List.prefix_append _ _)];unfold sortedB at h3;rw [List.all_eq_true] at h3;exact h3 m (List.mem_of_getElem? hm)
 ·rw [List.getElem?_append_right (by omega)] at hm
  have hk0:k - t.length=0:=by
   have:=(List.getElem?_eq_some_iff.1 hm).1;simp at this
   omega
  rw [hk0] at hm;obtain rfl:n=m:=by simpa using hm
  rw [sortProg_more hs (Nat.le_refl _) (List.prefix_append _ _),hp];simp
theorem put_ok {g:Sig} {most:Int} {t:List Node} {n:Node} (h:tableE g t=0) (hl:(t.length:Int)≤most) (hs:standsN n t.length=true) (hp:sortProg g t n=(n.sort,0)) :
  (∃ (u:List Node) (k:Nat),putT t n most=(u,(k:Int),0)∧t <+: u∧u[k]?=some n∧tableE g u=0∧(u.length:Int)≤most)∨putT t n most=([],0,40):=by
 obtain ⟨h1,h2,h3⟩:=table_parts.1 h;unfold putT;rw [h2,hs];simp only [Bool.and_self,if_true]
 by_cases hm:n ∈ t
 ·rw [if_pos hm];refine .inl ⟨t,_,rfl,List.prefix_refl _,?_,h,hl⟩;have hx:∃ x ∈ t,decide (x=n)=true:=⟨n,hm,by simp⟩;have hlt:=List.findIdx_lt_length_of_exists hx;have:=List.findIdx_getElem (p:=fun x=>decide (x=n)) (xs:=t) (w:=hlt);rw [List.getElem?_eq_getElem hlt,of_decide_eq_true this]
 ·rw [if_neg hm]
  by_cases hf:most≤t.length
  ·rw [if_pos hf];exact .inr rfl
  ·rw [if_neg hf];refine .inl ⟨t ++ [n],t.length,rfl,List.prefix_append _ _,by simp,table_push h hs hm hp,?_⟩;rw [List.length_append,List.length_singleton]
   omega
def ValIn (t:List Node) (v:V):Prop:=∃ (k:Nat) (x:Node),v.2=(k:Int)∧t[k]?=some x∧x.sort=v.1
theorem ValIn.more {t u:List Node} {v:V} (h:ValIn t v) (hu:t <+: u):ValIn u v:=by
 obtain ⟨k,x,h1,h2,h3⟩:=h;obtain ⟨r,rfl⟩:=hu;exact⟨k,x,h1,by rw [List.getElem?_append_left (List.getElem?_eq_some_iff.1 h2).1];exact h2,h3⟩
theorem ValIn.sorts {t:List Node} {v:V} (h:ValIn t v) (hc:checkT t=true):0≤v.1∧v.1 < 6:=by
 obtain ⟨k,x,h1,h2,h3⟩:=h;have hs:=standsTo_at (checkT_parts.1 hc).2.1 h2;rw [stands_split] at hs;unfold headOkB at hs;simp only [Bool.and_eq_true,decide_eq_true_eq] at hs;rw [← h3];exact⟨hs.1.1.1.1.2,hs.1.1.1.2⟩
end Go.Proofs.YtpmdcckapddchaaGreat.El
/- How a maker lies in memory. -/
namespace Go.Proofs.YtpmdcckapddchaaGreat.El
open Go.RowKit Go.Maps Go.Proofs.YtpmdcckapddchaaGreat.Dt Go.Proofs.YtpmdcckapddchaaGreat.Sg
structure Fix where
 W0:World
 mb:Nat
 A1:Option Addr
 c1:Nat
 A2:Option Addr
 c2:Nat
 A3:Option Addr
 c3:Nat
 c:Cx
structure FixOk (F:Fix):Prop where
 sig:SigAt F.W0 F.A1 F.c1 F.A2 F.c2 F.A3 F.c3 F.c.g
 ok:checkE F.c.g=0
 lt:F.W0.heap.size≤F.mb
 most:F.c.most≤1000000
 m64:I64 F.c.most
def onMb (F:Fix) (k:Nat):Prop:=k=F.mb
def Sta (F:Fix) (P:World→Prop) (w:World):Prop:=∀ W,Keeps (onMb F) w W→P W
theorem Sta.now {F:Fix} {P:World→Prop} {w:World} (h:Sta F P w):P w:=h w (Keeps.refl _ _)
theorem Sta.on {F:Fix} {P:World→Prop} {w w':World} (h:Sta F P w) (hk:Keeps (onMb F) w w'):Sta F P w':=fun W hW=>h W (hk.trans_same hW)
theorem Sta.imp {F:Fix} {P Q:World→Prop} {w:World} (h:Sta F P w) (hi:∀ W,P W→Q W):Sta F Q w:=fun W hW=>hi W (h W hW)
def TN (B:Nat) (t:List Node) (At:Option Addr) (t':List Node) (At':Option Addr):Prop:=(t'=t∧At'=At)∨(t'≠[]→∀ b o,At'=some ⟨b,o,none⟩→B≤b)
theorem TN.refl (B:Nat) (t:List Node) (At:Option Addr):TN B t At t At:=.inl ⟨rfl,rfl⟩
theorem TN.mono {B C:Nat} {t t':List Node} {At At':Option Addr} (h:TN B t At t' At') (hC:C≤B):TN C t At t' At':=h.imp_right fun h ht b o e=>Nat.le_trans hC (h ht b o e)
theorem TN.trans {B C:Nat} {t t' t2:List Node} {At At' A2:Option Addr} (h:TN B t At t' At') (k:TN C t' At' t2 A2) (hC:B≤C):TN B t At t2 A2:=by
 rcases k with⟨rfl,rfl⟩ | k
 ·exact h
 ·exact .inr fun ht b o e=>Nat.le_trans hC (k ht b o e)
def Far (k:Nat) (t:List Node) (At:Option Addr):Prop:=t≠[]→∀ b o,At=some ⟨b,o,none⟩→b≠k
theorem Far.of_tn {B k:Nat} {t t':List Node} {At At':Option Addr} (h:Far k t At) (hn:TN B t At t' At') (hk:k < B):Far k t' At':=by
 rcases hn with⟨rfl,rfl⟩ | hn
 ·exact h
 ·intro ht b o e hb;have:=hn ht b o e
  omega
theorem lies_block {w w':World} {At:Option Addr} {t:List Node} (h:Lies 8 NodeR w At t) (hs:w.heap.size≤w'.heap.size) (hb:t≠[]→∀ b o,At=some ⟨b,o,none⟩→w'.heap[b]?=w.heap[b]?):Lies 8 NodeR w' At t:=by
 rcases h with h | ⟨b,o,hA,hlt,hr⟩
 ·exact .inl h
 ·by_cases ht:t=[]
  ·exact .inl ht
  refine .inr ⟨b,o,hA,by omega,fun i x hx=>?_⟩;obtain ⟨vs,h1,h2,h3⟩:=hr i x hx;exact⟨vs,h1,fun j u hu=>(World.cell?_of_block (a:=⟨b,o+i * 8+j,none⟩) (hb ht b o hA)).trans (h2 j u hu),h3⟩
theorem lies_lt {w:World} {At:Option Addr} {t:List Node} (h:Lies 8 NodeR w At t) (ht:t≠[]):∀ b o,At=some ⟨b,o,none⟩→b < w.heap.size:=by
 rcases h with h | ⟨b,o,hA,hlt,hr⟩
 ·exact absurd h ht
 ·intro b' o' e;rw [hA] at e;simp only [Option.some.injEq,Addr.mk.injEq,and_true] at e;obtain ⟨rfl,rfl⟩:=e;exact hlt
structure Mk (F:Fix) (w:World) (known:Int) (st:St) (At:Option Addr) (ct:Nat):Prop where
 blk:w.heap[F.mb]?=some (.cells #[.slice F.A1 F.c.g.sorts.length F.c1,.slice F.A2 F.c.g.funs.length F.c2,.slice F.A3 F.c.g.macros.length F.c3,.slice At st.t.length ct,.int .i64 F.c.most,.bool F.c.build,.int .i64 known,.int .i64 st.calls,.int .i64 st.e] 67 (0,0))
 le:st.t.length≤ct
 lm:ct≤maxLen
 len:st.t.length≤1000000
 table:Lies 8 NodeR w At st.t
 far:Far F.mb st.t At
 calls:0≤st.calls∧st.calls≤301∧(st.e=0→st.calls≤300)
 below:Below F.W0.heap.size F.W0 w
def valV (v:V):Value:=.agg #[.int .i64 v.1,.int .i64 v.2]
def VI (v:V):Prop:=I64 v.1∧I64 v.2
theorem Mk.lt {F:Fix} {w:World} {known:Int} {st:St} {At:Option Addr} {ct:Nat} (h:Mk F w known st At ct):F.mb < w.heap.size:=lt_of_block h.blk
theorem Mk.new_far {F:Fix} {w:World} {known:Int} {st:St} {At:Option Addr} {ct:Nat} (h:Mk F w known st At ct) {k:Nat} (hk:w.heap.size≤k):Far k st.t At:=fun ht b o e=>by
 have:=lies_lt h.table ht b o e
 omega
theorem below_mb {F:Fix} (hF:FixOk F) {w w':World} (h:Below F.W0.heap.size F.W0 w) (hk:Keeps (onMb F) w w'):Below F.W0.heap.size F.W0 w' :=
 h.trans (hk.below (fun k hk=>by unfold onMb at hk;have:=hF.lt;omega) h.size)
theorem Mk.same {F:Fix} {w w':World} {known:Int} {st:St} {At:Option Addr} {ct:Nat} (h:Mk F w known st At ct) {S:Nat→Prop} (hk:Keeps S w w') (h1:¬ S F.mb) (h2:st.t≠[]→∀ b o,At=some ⟨b,o,none⟩→¬ S b) (h3:∀ k,S k→F.W0.heap.size≤k):Mk F w' known st At ct :=
 ⟨(hk.block F.mb h.lt h1).trans h.blk,h.le,h.lm,h.len,lies_block h.table hk.size (fun ht b o e=>hk.block b (lies_lt h.table ht b o e) (h2 ht b o e)),h.far,h.calls,h.below.trans (hk.below h3 h.below.size)⟩
theorem Mk.keep {F:Fix} {w w':World} {known:Int} {st:St} {At:Option Addr} {ct:Nat} (h:Mk F w known st At ct) (hb:Below w.heap.size w w'):Mk F w' known st At ct :=
 h.same (Keeps.of_below hb (fun _=>False)) id (fun _ _ _ _ h=>h) (fun _ h=>h.elim)
theorem Mk.other {F:Fix} (hF:FixOk F) {w:World} {known:Int} {st:St} {At:Option Addr} {ct:Nat} (h:Mk F w known st At ct) {k:Nat} (hk:F.mb < k) (hf:Far k st.t At) (j:Nat) (u:Value):Mk F (w.setCell ⟨k,j,none⟩ u) known st At ct :=
 h.same (S:=fun b=>b=k) ((Keeps.refl (fun b=>b=k) w).setCell (p:=⟨k,j,none⟩) (.inl rfl) u) (by omega) (fun ht b o e hb=>hf ht b o e hb) (fun b hb=>by have:=hF.lt;omega)
theorem Mk.set {F:Fix} (hF:FixOk F) {w:World} {known known':Int} {st st':St} {At:Option Addr} {ct:Nat} (h:Mk F w known st At ct) (j:Nat) (u:Value) (ht:st'.t=st.t)
  (hj:#[Value.slice F.A1 F.c.g.sorts.length F.c1,.slice F.A2 F.c.g.funs.length F.c2,.slice F.A3 F.c.g.macros.length F.c3,.slice At st.t.length ct,.int .i64 F.c.most,.bool F.c.build,.int .i64 known,.int .i64 st.calls,.int .i64 st.e].setIfInBounds j u=#[Value.slice F.A1 F.c.g.sorts.length F.c1,.slice F.A2 F.c.g.funs.length F.c2,.slice F.A3 F.c.g.macros.length F.c3,.slice At st'.t.length ct,.int .i64 F.c.most,.bool F.c.build,.int .i64 known',.int .i64 st'.calls,.int .i64 st'.e])
  (hc:0≤st'.calls∧st'.calls≤301∧(st'.e=0→st'.calls≤300)):Mk F (w.setCell ⟨F.mb,j,none⟩ u) known' st' At ct∧Keeps (onMb F) w (w.setCell ⟨F.mb,j,none⟩ u):=by
 have hk:Keeps (onMb F) w (w.setCell ⟨F.mb,j,none⟩ u):=(Keeps.refl _ w).setCell (.inl (show onMb F F.mb from rfl)) u;refine⟨⟨?_,by rw [ht];exact h.le,h.lm,by rw [ht];exact h.len,?_,by rw [ht];exact h.far,hc,below_mb hF h.below hk⟩,hk⟩
 ·have:=Bk.set_at h.blk j u;rw [hj] at this;exact this
 ·rw [ht];exact lies_block h.table hk.size (fun hn b o e=>hk.block b (lies_lt h.table hn b o e) (h.far hn b o e))
def MkPost (F:Fix) (known:Int) (w:World) (t:List Node) (At:Option Addr) (v:V) (st':St) (e:Ending) (w':World):Prop :=
 e=.returned (valV v)∧VI v∧Keeps (onMb F) w w'∧∃ A' c',Mk F w' known st' A' c'∧TN w.heap.size t At st'.t A'
theorem val_ret {f:Func} {w:World} {b k:Nat} {x y:Value} {act:Act} {R:Ending→World→Prop} (hf:f.results=#[.cell k 69]) (hb:w.heap[b]?=some (.cells #[x,y] 69 (0,0))) (h2:act.tmps[k]?=some (.pointer (some ⟨b,0,none⟩))) (hd:act.defers=[]) (hR:R (.returned (.agg #[x,y])) w) :
  bodyPost Tryz.prog f R .ret act w:=by
 obtain ⟨y0,y1,_⟩:=Bk.c2 hb;refine bodyPost_ret (v:=.agg #[x,y]) ?_ hd hR;simp [results,hf,go_sem,y0,y1,h2]
theorem mk_end {F:Fix} (hF:FixOk F) {f:Func} {k rb:Nat} {w W:World} {known:Int} {t:List Node} {At:Option Addr} {v:V} {st':St} {A':Option Addr} {c':Nat} {act:Act} {r0 r1:Value}
  (hf:f.results=#[.cell k 69]) (hm:Mk F W known st' A' c') (hw:F.mb < w.heap.size) (hk:Keeps (onMb F) w W) (hn:TN w.heap.size t At st'.t A') (hrb:w.heap.size≤rb) (hr:Far rb st'.t A') (hb:W.heap[rb]?=some (.cells #[r0,r1] 69 (0,0)))
  (h2:act.tmps[k]?=some (.pointer (some ⟨rb,0,none⟩))) (hd:act.defers=[]) (hv:VI v) :
  bodyPost Tryz.prog f (MkPost F known w t At v st') .ret act ((W.setCell ⟨rb,0,none⟩ (.int .i64 v.1)).setCell ⟨rb,1,none⟩ (.int .i64 v.2)):=by
 refine val_ret hf (b:=rb) (x:=.int .i64 v.1) (y:=.int .i64 v.2) (Bk.set_at (Bk.set_at hb 0 _) 1 _) h2 hd ?_;exact⟨rfl,hv,(hk.setCell (p:=⟨rb,0,none⟩) (.inr hrb) _).setCell (p:=⟨rb,1,none⟩) (.inr hrb) _,A',c',(hm.other hF (by omega) hr 0 _).other hF (by omega) hr 1 _,hn⟩
theorem v0_VI:VI v0:=⟨by show I64 0;unfold I64;omega,by show I64 0;unfold I64;omega⟩
set_option maxHeartbeats 1600000 in
theorem fail_any {F:Fix} (hF:FixOk F) {w:World} {known:Int} {st:St} {At:Option Addr} {ct:Nat} (hm:Mk F w known st At ct) (e:Int) (he:e≠0) :
  Calls Tryz.prog 49 #[.pointer (some ⟨F.mb,0,none⟩),.int .i64 e] w (MkPost F known w st.t At v0 (failS e st)):=by
 have HM:=kp (hm.keep ((Below.refl w.heap.size w).alloc (Nat.le_refl _) (.cells #[.int .i64 0,.int .i64 0] 69)));have RB:=kp (Bk.new w (.cells #[.int .i64 0,.int .i64 0] 69));have hlt:=hm.lt;have HFr:=kp (hm.new_far (Nat.le_refl _));have HS:=kp (show failS e st=if st.e=0 then { st with e:=e } else st from rfl);have HK:=kp ((Keeps.refl (onMb F) w).alloc (.cells #[.int .i64 0,.int .i64 0] 69));clear hm;generalize failS e st=st' at *
 go_enter Tryz.func49,Tryz.ntmps49
 go_upto_region 1 with fail
 generalize w.alloc (.cells #[.int .i64 0,.int .i64 0] 69)=w1 at *;obtain ⟨m0,m1,m2,m3,m4,m5,m6,m7,m8,mf⟩:=Bk.c9 HM.out.blk;obtain ⟨r0,r1,rf⟩:=Bk.c2 RB.out
 by_cases he0:st.e=0
 ·have he1:(st.e == 0)=true:=by simp [he0]
  replace HS:=kp (HS.out.trans (if_pos he0));have hset:=kp (Mk.set hF HM.out (known':=known) (st':=st') 8 (.int .i64 e) (by rw [HS.out]) (by rw [HS.out];rfl) (by rw [HS.out];have:=HM.out.calls;exact⟨this.1,this.2.1,fun h=>absurd h he⟩));clear he0;go_wp2_with fail
  exact mk_end (v:=v0) hF Tryz.results49 hset.out.1 hlt (HK.out.trans_same hset.out.2) (by rw [HS.out];exact TN.refl _ _ _) (Nat.le_refl _) (by rw [HS.out];exact HFr.out) (Bk.apart RB.out (by show w.heap.size≠F.mb;omega) _) rfl rfl v0_VI
 ·have he1:(st.e == 0)=false:=by simp [he0]
  replace HS:=kp (HS.out.trans (if_neg he0));clear he0;go_wp2_with fail
  exact mk_end (v:=v0) hF Tryz.results49 (by rw [HS.out];exact HM.out) hlt HK.out (by rw [HS.out];exact TN.refl _ _ _) (Nat.le_refl _) (by rw [HS.out];exact HFr.out) RB.out rfl rfl v0_VI
end Go.Proofs.YtpmdcckapddchaaGreat.El
/- The three texts that every statement of the layer looks at: how they are read, and what they are made to. No program in sight. -/
namespace Go.Proofs.YtpmdcckapddchaaGreat.El
open Go.RowKit Go.Proofs.YtpmdcckapddchaaGreat.Dt Go.Proofs.YtpmdcckapddchaaGreat.Sg
inductive RdAll:List UInt8→List Sexp→List UInt8→Prop
 | nil {l rest:List UInt8} (h:nextL (skipL false l)=.tok 1 [] rest):RdAll l [] rest
 | cons {l m rest:List UInt8} {x:Sexp} {xs:List Sexp} (hc:∀ t q,nextL (skipL false l)≠.tok 1 t q) (hx:Rd l x m) (hr:RdAll m xs rest):RdAll l (x :: xs) rest
theorem RdAll.places {l rest:List UInt8} {xs:List Sexp} (h:RdAll l xs rest):∃ f:Nat→List UInt8,f 0=l∧(∀ i,i < xs.length→∀ t q,nextL (skipL false (f i))≠.tok 1 t q)∧(∀ i x,xs[i]?=some x→Rd (f i) x (f (i+1)))∧nextL (skipL false (f xs.length))=.tok 1 [] rest:=by
 induction h with
 | @nil l rest h=>exact⟨fun _=>l,rfl,fun i hi=>by simp at hi,fun i x hx=>by simp at hx,h⟩
 | @cons l m rest x xs hc hx hr ih =>
  obtain ⟨f,h0,h1,h2,h3⟩:=ih;refine⟨fun i=>match i with | 0=>l | j+1=>f j,rfl,fun i hi=>?_,fun i y hy=>?_,h3⟩
  ·cases i with
   | zero=>exact hc
   | succ j=>exact h1 j (by simp at hi;omega)
  ·cases i with
   | zero =>
    obtain rfl:x=y:=by simpa using hy
    show Rd l x (f 0);rw [h0];exact hx
   | succ j=>exact h2 j y (by simpa using hy)
theorem Rd.of_all {l r rest:List UInt8} {xs:List Sexp} (h:nextL (skipL false l)=.tok 0 [] r) (ha:RdAll r xs rest):Rd l (.mk 3 { data:=#[] } xs) rest:=by
 obtain ⟨f,h0,h1,h2,h3⟩:=ha.places;exact .list f h h0 h1 h2 h3
def bX:ByteArray:={ data:=#[120] }
def bY:ByteArray:={ data:=#[121] }
def bF:ByteArray:={ data:=#[102] }
def bP:ByteArray:={ data:=#[112] }
def bS:ByteArray:={ data:=#[115] }
def b3:ByteArray:={ data:=#[51] }
def smallG:Sig:=⟨[{ data:=#[83] }],[⟨bX,0,0,0,0,1⟩,⟨bY,0,0,0,0,1⟩,⟨bF,1,1,0,0,1⟩,⟨bP,0,0,0,0,0⟩,⟨bS,0,0,0,0,2⟩],[]⟩
def txA:ByteArray:={ data:=#[40,60,61,32,40,45,32,120,32,121,41,32,51,41] }
def txB:ByteArray:={ data:=#[40,100,105,115,116,105,110,99,116,32,120,32,121,41] }
def txC:ByteArray:={ data:=#[40,43,32,120,32,121,41] }
def xA:Sexp:=.mk 3 { data:=#[] } [symX sLe,.mk 3 { data:=#[] } [symX sMinus,symX bX,symX bY],.mk 1 b3 []]
def xB:Sexp:=.mk 3 { data:=#[] } [symX sDistinct,symX bX,symX bY]
def xC:Sexp:=.mk 3 { data:=#[] } [symX sPlus,symX bX,symX bY]
theorem not_close {l:List UInt8} {k:Int} {t r:List UInt8} (h:nextL (skipL false l)=.tok k t r) (hk:k≠1):∀ t q,nextL (skipL false l)≠.tok 1 t q:=by
 intro t q e;rw [h] at e;simp only [Tk.tok.injEq] at e;exact hk e.1
theorem RdAll.sym {l t r rest:List UInt8} {s:ByteArray} {xs:List Sexp} (h:nextL (skipL false l)=.tok 2 t r) (hs:Lx.bs s=t) (hr:RdAll r xs rest):RdAll l (symX s :: xs) rest:=.cons (not_close h (by decide)) (.name h hs) hr
theorem rdA:Rd (from_ txA 0) xA []:=by
 refine Rd.of_all (r:=[60,61,32,40,45,32,120,32,121,41,32,51,41]) (by kernel_rfl) ?_;refine RdAll.sym (t:=[60,61]) (r:=[32,40,45,32,120,32,121,41,32,51,41]) (by kernel_rfl) (by kernel_rfl) ?_;refine .cons (m:=[32,51,41]) (not_close (k:=0) (t:=[]) (r:=[45,32,120,32,121,41,32,51,41]) (by kernel_rfl) (by decide)) ?_ ?_
 ·refine Rd.of_all (r:=[45,32,120,32,121,41,32,51,41]) (by kernel_rfl) ?_;refine RdAll.sym (t:=[45]) (r:=[32,120,32,121,41,32,51,41]) (by kernel_rfl) (by kernel_rfl) ?_;refine RdAll.sym (t:=[120]) (r:=[32,121,41,32,51,41]) (by kernel_rfl) (by kernel_rfl) ?_;refine RdAll.sym (t:=[121]) (r:=[41,32,51,41]) (by kernel_rfl) (by kernel_rfl) ?_;exact .nil (by kernel_rfl)
 ·refine .cons (m:=[41]) (not_close (k:=3) (t:=[51]) (r:=[41]) (by kernel_rfl) (by decide)) (.num (t:=[51]) (by kernel_rfl) (by kernel_rfl)) ?_;exact .nil (by kernel_rfl)
theorem rdB:Rd (from_ txB 0) xB []:=by
 refine Rd.of_all (r:=[100,105,115,116,105,110,99,116,32,120,32,121,41]) (by kernel_rfl) ?_;refine RdAll.sym (t:=[100,105,115,116,105,110,99,116]) (r:=[32,120,32,121,41]) (by kernel_rfl) (by kernel_rfl) ?_;refine RdAll.sym (t:=[120]) (r:=[32,121,41]) (by kernel_rfl) (by kernel_rfl) ?_;refine RdAll.sym (t:=[121]) (r:=[41]) (by kernel_rfl) (by kernel_rfl) ?_;exact .nil (by kernel_rfl)
theorem rdC:Rd (from_ txC 0) xC []:=by
 refine Rd.of_all (r:=[43,32,120,32,121,41]) (by kernel_rfl) ?_;refine RdAll.sym (t:=[43]) (r:=[32,120,32,121,41]) (by kernel_rfl) (by kernel_rfl) ?_;refine RdAll.sym (t:=[120]) (r:=[32,121,41]) (by kernel_rfl) (by kernel_rfl) ?_;refine RdAll.sym (t:=[121]) (r:=[41]) (by kernel_rfl) (by kernel_rfl) ?_;exact .nil (by kernel_rfl)
def ansB (o:List Node × Int × Int) (p:Node→Bool):Bool:=decide (o.2.2=0) && decide (0≤o.2.1) && (match o.1[o.2.1.toNat]? with | some n=>p n | none=>false)
theorem ansB_out {o:List Node × Int × Int} {p:Node→Bool} (h:ansB o p=true):o.2.2=0∧∃ k:Nat,o.2.1=k∧∃ n,o.1[k]?=some n∧p n=true:=by
 unfold ansB at h;simp only [Bool.and_eq_true,decide_eq_true_eq] at h;obtain ⟨⟨h1,h2⟩,h3⟩:=h;obtain ⟨k,hk⟩:=Int.eq_ofNat_of_zero_le h2;rw [hk] at h3;refine⟨h1,k,hk,?_⟩
 cases hn:o.1[k]? with
 | none=>simp [hn] at h3
 | some n=>exact⟨n,rfl,by simpa [hn] using h3⟩
set_option maxRecDepth 100000 in
theorem ansA:ansB (termO smallG newT xA 200) (fun n=>decide (n.op=12) && decide (n.n=3))=true:=by decide +kernel
set_option maxRecDepth 100000 in
theorem ansBd:ansB (termO smallG newT xB 200) (fun n=>decide (n.op=1))=true:=by decide +kernel
set_option maxRecDepth 100000 in
theorem ansC:(termO smallG newT xC 200).2.2=34:=by decide +kernel
theorem lies_blk {α β:Type} {n:Nat} {R:World→List Value→β→Prop} {w:World} {b:Nat} {t:TypeId} {fr:Nat × Nat} {val:α→List Value} {f:α→β} {L:List Value} (ys:List α) (h:w.heap[b]?=some (.cells L.toArray t fr)) (hL:flatV val ys <+: L) (hv:∀ y,(val y).length=n) (hR:∀ y ∈ ys,R w (val y) (f y)) :
  Lies n R w (some ⟨b,0,none⟩) (ys.map f):=by
 refine .inr ⟨b,0,rfl,lt_of_block h,fun i x hx=>?_⟩;rw [List.getElem?_map] at hx
 cases hy:ys[i]? with
 | none=>rw [hy] at hx;cases hx
 | some y =>
  rw [hy] at hx;obtain rfl:f y=x:=by simpa using hx
  refine⟨val y,hv y,fun j u hu=>?_,hR y (List.mem_of_getElem? hy)⟩;have h1:=flatV_at hv ys i y hy j u hu;obtain ⟨r,hr⟩:=hL;rw [Nat.zero_add,cell_of_row w b (i * n+j) L.toArray t fr h,List.getElem?_toArray,← hr,List.getElem?_append_left (List.getElem?_eq_some_iff.1 h1).1];exact h1
theorem sexp_ret {f:Func} {w:World} {b:Nat} {r0 r1 r2:Value} {act:Act} {t:TypeId} {R:Ending→World→Prop} (hf:f.results=#[.cell 8 30]) (hb:w.heap[b]?=some (.cells #[r0,r1,r2] t (0,0))) (h2:act.tmps[8]?=some (.pointer (some ⟨b,0,none⟩))) (hd:act.defers=[]) (hR:R (.returned (.agg #[r0,r1,r2])) w) :
  bodyPost Tryz.prog f R .ret act w:=by
 obtain ⟨y0,y1,y2,_⟩:=Bk.c3 hb;refine bodyPost_ret (v:=.agg #[r0,r1,r2]) ?_ hd hR;simp [results,hf,go_sem,y0,y1,y2,h2]
theorem sexp_ret4 {f:Func} {w:World} {b:Nat} {r0 r1 r2:Value} {act:Act} {t:TypeId} {R:Ending→World→Prop} (hf:f.results=#[.cell 4 30]) (hb:w.heap[b]?=some (.cells #[r0,r1,r2] t (0,0))) (h2:act.tmps[4]?=some (.pointer (some ⟨b,0,none⟩))) (hd:act.defers=[]) (hR:R (.returned (.agg #[r0,r1,r2])) w) :
  bodyPost Tryz.prog f R .ret act w:=by
 obtain ⟨y0,y1,y2,_⟩:=Bk.c3 hb;refine bodyPost_ret (v:=.agg #[r0,r1,r2]) ?_ hd hR;simp [results,hf,go_sem,y0,y1,y2,h2]
def ListPost (w:World) (l:List SxB) (n:Nat) (e:Ending) (w':World):Prop :=
 (∃ b,e=.returned (.agg #[.int .i8 3,.string { data:=#[] },.slice (some ⟨b,0,none⟩) n 3])∧w.heap.size≤b∧w'.heap[b]?=some (.cells (flatV sxV l).toArray 30 (0,0)))∧Below w.heap.size w w'
theorem flatV_take {α:Type} {val:α→List Value} (l:List α) (n:Nat):flatV val (l.take n) <+: flatV val l:=⟨flatV val (l.drop n),by rw [← flatV_append,List.take_append_drop]⟩
theorem list_at {W:World} {b n:Nat} {l:List SxB} (h:W.heap[b]?=some (.cells (flatV sxV l).toArray 30 (0,0))) (hl:∀ y ∈ l,sxOk W y) (hn:n≤l.length) (h3:l.length=3) :
  XAt W (some ⟨b,0,none⟩) 3 (.mk 3 { data:=#[] } ((l.map Prod.fst).take n)):=by
 have hli:=lies_blk (f:=Prod.fst) (R:=SexpR) (l.take n) h (flatV_take l n) sxV_len (fun y hy=>hl y (List.mem_of_mem_take hy));have:=SexpR.make (w:=W) (A:=some ⟨b,0,none⟩) (k:=3) (t:={ data:=#[] }) (c:=3) (l:=(l.take n).map Prod.fst) hli (by rw [List.length_map,List.length_take];omega) (by unfold maxLen;omega) (by decide) (by rw [List.length_map,List.length_take];omega) (by decide);rw [List.map_take] at this;exact this
set_option maxRecDepth 100000 in
set_option maxHeartbeats 3200000 in
theorem list_any (w:World) (x y z:SxB) (n:Nat) (hn:n≤3) :
  Calls Tryz.prog 10 #[.agg (sxV x).toArray,.agg (sxV y).toArray,.agg (sxV z).toArray,.int .i64 n] w (ListPost w [x,y,z] n):=by
 obtain ⟨x,A,a⟩:=x;obtain ⟨y,B,b⟩:=y;obtain ⟨z,C,c⟩:=z;simp only [sxV];have B4:=kp (((((Below.refl w.heap.size w).alloc (Nat.le_refl _) (.cells #[.int .i8 x.kind,.string x.text,.slice A x.l.length a] 30)).alloc (by simp) (.cells #[.int .i8 y.kind,.string y.text,.slice B y.l.length b] 30)).alloc (by simp;omega) (.cells #[.int .i8 z.kind,.string z.text,.slice C z.l.length c] 30)).alloc (by simp;omega) (.cells #[.int .i8 0,.string { data:=#[] },.slice none 0 0] 30));have X4:=kp (Bk.keep (Bk.keep (Bk.keep (Bk.new w (.cells #[.int .i8 x.kind,.string x.text,.slice A x.l.length a] 30)) (.cells #[.int .i8 y.kind,.string y.text,.slice B y.l.length b] 30)) (.cells #[.int .i8 z.kind,.string z.text,.slice C z.l.length c] 30)) (.cells #[.int .i8 0,.string { data:=#[] },.slice none 0 0] 30))
 have Y4:=kp (Bk.keep (Bk.keep (show((w.alloc (.cells #[.int .i8 x.kind,.string x.text,.slice A x.l.length a] 30)).alloc (.cells #[.int .i8 y.kind,.string y.text,.slice B y.l.length b] 30)).heap[w.heap.size+1]?=some (.cells #[.int .i8 y.kind,.string y.text,.slice B y.l.length b] 30 (0,0)) by
  have h:=Bk.new (w.alloc (.cells #[.int .i8 x.kind,.string x.text,.slice A x.l.length a] 30)) (.cells #[.int .i8 y.kind,.string y.text,.slice B y.l.length b] 30);simpa using h) (.cells #[.int .i8 z.kind,.string z.text,.slice C z.l.length c] 30)) (.cells #[.int .i8 0,.string { data:=#[] },.slice none 0 0] 30))
 have Z4:=kp (Bk.keep (show(((w.alloc (.cells #[.int .i8 x.kind,.string x.text,.slice A x.l.length a] 30)).alloc (.cells #[.int .i8 y.kind,.string y.text,.slice B y.l.length b] 30)).alloc (.cells #[.int .i8 z.kind,.string z.text,.slice C z.l.length c] 30)).heap[w.heap.size+2]?=some (.cells #[.int .i8 z.kind,.string z.text,.slice C z.l.length c] 30 (0,0)) by
  have h:=Bk.new ((w.alloc (.cells #[.int .i8 x.kind,.string x.text,.slice A x.l.length a] 30)).alloc (.cells #[.int .i8 y.kind,.string y.text,.slice B y.l.length b] 30)) (.cells #[.int .i8 z.kind,.string z.text,.slice C z.l.length c] 30);simpa using h) (.cells #[.int .i8 0,.string { data:=#[] },.slice none 0 0] 30))
 have R4:=kp (show((((w.alloc (.cells #[.int .i8 x.kind,.string x.text,.slice A x.l.length a] 30)).alloc (.cells #[.int .i8 y.kind,.string y.text,.slice B y.l.length b] 30)).alloc (.cells #[.int .i8 z.kind,.string z.text,.slice C z.l.length c] 30)).alloc (.cells #[.int .i8 0,.string { data:=#[] },.slice none 0 0] 30)).heap[w.heap.size+3]?=some (.cells #[.int .i8 0,.string { data:=#[] },.slice none 0 0] 30 (0,0)) by
  have h:=Bk.new (((w.alloc (.cells #[.int .i8 x.kind,.string x.text,.slice A x.l.length a] 30)).alloc (.cells #[.int .i8 y.kind,.string y.text,.slice B y.l.length b] 30)).alloc (.cells #[.int .i8 z.kind,.string z.text,.slice C z.l.length c] 30)) (.cells #[.int .i8 0,.string { data:=#[] },.slice none 0 0] 30);simpa using h)
 have hn1:(n:Int)≤3:=by omega
 go_enter Tryz.func10,Tryz.ntmps10
 go_upto_region 1 with fail
 generalize (((w.alloc (.cells #[.int .i8 x.kind,.string x.text,.slice A x.l.length a] 30)).alloc (.cells #[.int .i8 y.kind,.string y.text,.slice B y.l.length b] 30)).alloc (.cells #[.int .i8 z.kind,.string z.text,.slice C z.l.length c] 30)).alloc (.cells #[.int .i8 0,.string { data:=#[] },.slice none 0 0] 30)=w4 at *;obtain ⟨x0,x1,x2,xf⟩:=Bk.c3 X4.out;obtain ⟨y0,y1,y2,yf⟩:=Bk.c3 Y4.out;obtain ⟨z0,z1,z2,zf⟩:=Bk.c3 Z4.out;have L5:=kp (Bk.new w4 (.cells #[.int .i8 x.kind,.string x.text,.slice A x.l.length a,.int .i8 y.kind,.string y.text,.slice B y.l.length b,.int .i8 z.kind,.string z.text,.slice C z.l.length c] 30));have R5:=kp (Bk.keep R4.out (.cells #[.int .i8 x.kind,.string x.text,.slice A x.l.length a,.int .i8 y.kind,.string y.text,.slice B y.l.length b,.int .i8 z.kind,.string z.text,.slice C z.l.length c] 30));have B5:=kp (B4.out.alloc B4.out.size (.cells #[.int .i8 x.kind,.string x.text,.slice A x.l.length a,.int .i8 y.kind,.string y.text,.slice B y.l.length b,.int .i8 z.kind,.string z.text,.slice C z.l.length c] 30));have HN:=kp (show w4.heap.size≠w.heap.size+3 from by have:=lt_of_block R4.out;omega);have HL:=kp B4.out.size;go_upto_region 2 with fail
 generalize w4.alloc (.cells #[.int .i8 x.kind,.string x.text,.slice A x.l.length a,.int .i8 y.kind,.string y.text,.slice B y.l.length b,.int .i8 z.kind,.string z.text,.slice C z.l.length c] 30)=w5 at *;generalize w4.heap.size=lb at *;clear x0 x1 x2 xf y0 y1 y2 yf z0 z1 z2 zf;obtain ⟨r0,r1,r2,rf⟩:=Bk.c3 R5.out;go_wp2_with fail
 exact sexp_ret (w:=set3' w5 (w.heap.size+3) _ _ _) Tryz.results10 (set3'_at R5.out _ _ _) rfl rfl ⟨⟨lb,rfl,HL.out,Bk.apart (Bk.apart (Bk.apart L5.out (p:=⟨w.heap.size+3,0,none⟩) HN.out _) (p:=⟨w.heap.size+3,1,none⟩) HN.out _) (p:=⟨w.heap.size+3,2,none⟩) HN.out _⟩,set3'_below B5.out (by omega) _ _ _⟩
def PairPost (w:World) (s:ByteArray) (x:SxB) (e:Ending) (w':World):Prop :=
 (∃ b,e=.returned (.agg #[.int .i8 3,.string { data:=#[] },.slice (some ⟨b,0,none⟩) 2 3])∧w.heap.size≤b∧w'.heap[b]?=some (.cells (flatV sxV [(symX s,none,0),x,(symX { data:=#[] },none,0)]).toArray 30 (0,0)))∧Below w.heap.size w w'
set_option maxRecDepth 100000 in
set_option maxHeartbeats 3200000 in
theorem pair_any (w:World) (s:ByteArray) (x:SxB) :
  Calls Tryz.prog 11 #[.string s,.agg (sxV x).toArray] w (PairPost w s x):=by
 obtain ⟨x,A,a⟩:=x;have HLs:=kp (fun W=>list_any W (symX s,none,0) (x,A,a) (symX { data:=#[] },none,0) 2 (by omega));simp only [sxV,symX,Sexp.kind,Sexp.text,Sexp.l,List.length_nil] at HLs;simp only [sxV];have B4:=kp (((Below.refl w.heap.size w).alloc (Nat.le_refl _) (.cells #[.int .i8 x.kind,.string x.text,.slice A x.l.length a] 30)).alloc (by simp) (.cells #[.int .i8 0,.string { data:=#[] },.slice none 0 0] 30));have X4:=kp (Bk.keep (Bk.new w (.cells #[.int .i8 x.kind,.string x.text,.slice A x.l.length a] 30)) (.cells #[.int .i8 0,.string { data:=#[] },.slice none 0 0] 30))
 have R4:=kp (show((w.alloc (.cells #[.int .i8 x.kind,.string x.text,.slice A x.l.length a] 30)).alloc (.cells #[.int .i8 0,.string { data:=#[] },.slice none 0 0] 30)).heap[w.heap.size+1]?=some (.cells #[.int .i8 0,.string { data:=#[] },.slice none 0 0] 30 (0,0)) by
  have h:=Bk.new (w.alloc (.cells #[.int .i8 x.kind,.string x.text,.slice A x.l.length a] 30)) (.cells #[.int .i8 0,.string { data:=#[] },.slice none 0 0] 30);simpa using h)
 unfold ListPost at HLs
 go_enter Tryz.func11,Tryz.ntmps11
 go_upto_region 1 with fail
 generalize (w.alloc (.cells #[.int .i8 x.kind,.string x.text,.slice A x.l.length a] 30)).alloc (.cells #[.int .i8 0,.string { data:=#[] },.slice none 0 0] 30)=w4 at *;obtain ⟨x0,x1,x2,xf⟩:=Bk.c3 X4.out;go_wp2_with fail
 refine(HLs.out _).mono ?_;rintro e w5 ⟨⟨b,rfl,hle,hb⟩,hbw⟩;have R5:=kp (Bk.on R4.out hbw);have L5:=kp hb;have B5:=kp (B4.out.trans (hbw.mono B4.out.size));have HN:=kp (show b≠w.heap.size+1 from by have:=lt_of_block R4.out;omega);have HL:=kp (show w.heap.size≤b from Nat.le_trans B4.out.size hle);clear hle hb hbw x0 x1 x2 xf;obtain ⟨r0,r1,r2,rf⟩:=Bk.c3 R5.out;go_wp2_with fail
 exact sexp_ret4 (w:=set3' w5 (w.heap.size+1) _ _ _) Tryz.results11 (set3'_at R5.out _ _ _) rfl rfl ⟨⟨b,rfl,HL.out,Bk.apart (Bk.apart (Bk.apart L5.out (p:=⟨w.heap.size+1,0,none⟩) HN.out _) (p:=⟨w.heap.size+1,1,none⟩) HN.out _) (p:=⟨w.heap.size+1,2,none⟩) HN.out _⟩,set3'_below B5.out (by omega) _ _ _⟩
end Go.Proofs.YtpmdcckapddchaaGreat.El
