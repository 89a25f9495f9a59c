import Derived.Test.YtpmdcckapddchaaGreatShort
import Derived.Test.YtpmdcckapddchaaGreatMs
import Derived.Test.YtpmdcckapddchaaGreatMn
import Derived.Test.YtpmdcckapddchaaGreatMp
/- merged by wip/merge.py from: TySort TyTable -/
/- The sort that a node has: the program's answer. -/
namespace Go.Proofs.YtpmdcckapddchaaGreat.El
open Go.RowKit Go.Proofs.YtpmdcckapddchaaGreat.Dt Go.Proofs.YtpmdcckapddchaaGreat.Sg
theorem arity_three {op:Int} {p:Int × Int} (h:arityN op=some p):0≤p.1∧p.2≤3:=by
 unfold arityN at h
 repeat' split at h
 all_goals first | (cases h;exact⟨by decide,by decide⟩) | cases h
theorem stands_len {n:Node} {a:Int} (h:standsN n a=true):0≤n.len∧n.len≤3:=by
 unfold standsN at h
 cases ho:arityN n.op with
 | none=>rw [ho] at h;cases h
 | some p =>
  rw [ho] at h;simp only [Bool.and_eq_true,decide_eq_true_eq] at h;have:=arity_three ho;have:=h.1.1.1.1.1.1.1
  omega
theorem stands_arg {n:Node} {a:Int} (h:standsN n a=true) {i:Nat} (hi:(i:Int) < n.len):0≤n.arg i∧n.arg i < a:=by
 have hl:=stands_len h;unfold standsN at h
 cases ho:arityN n.op with
 | none=>rw [ho] at h;cases h
 | some p =>
  rw [ho] at h;simp only [Bool.and_eq_true] at h;have h0:=h.1.1.1.1.1.2;have h1:=h.1.1.1.1.2;have h2:=h.1.1.1.2;have hc:i=0∨i=1∨i=2:=by omega
  rcases hc with rfl | rfl | rfl
  ·unfold argOkB at h0;rw [if_pos hi] at h0;exact of_decide_eq_true h0
  ·unfold argOkB at h1;rw [if_pos hi] at h1;exact of_decide_eq_true h1
  ·unfold argOkB at h2;rw [if_pos hi] at h2;exact of_decide_eq_true h2
theorem NodeAt.arg' {w:World} {b o:Nat} {n:Node} (h:NodeAt w b o n) {i:Nat} (hi:i < 3):w.cell? ⟨b,o+2+i,none⟩=some (.int .i64 (n.arg i)):=by
 obtain ⟨hl,h0,h1,h2,h3,h4,h5⟩:=h;have hc:i=0∨i=1∨i=2:=by omega
 rcases hc with rfl | rfl | rfl
 ·exact h2
 ·exact h3
 ·exact h4
def sortsTo (t:List Node) (n:Node) (k:Nat):List Int:=(List.range k).map fun i=>(t.getD (n.arg i).toNat nodeTrue).sort
theorem sortsTo_len (t:List Node) (n:Node) (k:Nat):(sortsTo t n k).length=k:=by unfold sortsTo;simp
theorem sortsTo_succ (t:List Node) (n:Node) (k:Nat):sortsTo t n (k+1)=sortsTo t n k ++ [(t.getD (n.arg k).toNat nodeTrue).sort]:=by unfold sortsTo;rw [List.range_succ,List.map_append];rfl
def sortProg (g:Sig) (t:List Node) (n:Node):Int × Int:=if n.op=13 then appProg g n.fn (sortsTo t n n.len.toNat) else opProg n.op (sortsTo t n n.len.toNat)
def SortPost (g:Sig) (t:List Node) (n:Node) (w:World) (e:Ending) (w':World):Prop:=e=.returned (.tuple #[.int .i64 (sortProg g t n).1,.bool (decide ((sortProg g t n).2=0))])∧Below w.heap.size w w'
theorem run_make3 (W:World):(Instr.makeSlice 111 (.int .i64 0) (.int .i64 3)).run Tryz.prog W=.ok (.slice (some ⟨W.heap.size,0,none⟩) 0 3) (W.alloc (.cells #[.int .i64 0,.int .i64 0,.int .i64 0] 3)):=by kernel_rfl
theorem owns_made (w:World) (vs:Array Value) (e:TypeId) (n:Nat) (hn:vs.size=n) (hm:n≤maxLen):(w.alloc (.cells vs e)).ownsRow w.heap.size e 1 (.slice (some ⟨w.heap.size,0,none⟩) 0 n) 0 [] :=
 ⟨by simp,.inr ⟨w.heap.size,n,vs,rfl,Nat.le_refl _,by show(w.heap.push _)[w.heap.size]?=_;exact Array.getElem?_push_size,Nat.zero_le _,hm,by rw [hn,Nat.mul_one],by simp⟩⟩
set_option maxRecDepth 100000 in
set_option maxHeartbeats 6400000 in
theorem tysort_any {w:World} {A1 A2 A3:Option Addr} {c1 c2 c3:Nat} {g:Sig} (h:SigAt w A1 c1 A2 c2 A3 c3 g) (hg:checkE g=0) (hl1:g.sorts.length≤1000000) (hl2:g.funs.length≤1000000) (hl3:g.macros.length≤1000000) {A:Option Addr} {t:List Node} (c:Nat) (ht:Lies 8 NodeR w A t) {n:Node} (hi:NodeI n) {a:Int} (hs:standsN n a=true) (ha:a≤t.length) :
  Calls Tryz.prog 44 #[.agg #[.slice A1 g.sorts.length c1,.slice A2 g.funs.length c2,.slice A3 g.macros.length c3],.agg #[.slice A t.length c],nodeV n] w (SortPost g t n w):=by
 obtain ⟨i0,hi0,z0,z1,z2⟩:=info_parts info_int;have I0:=kp hi0;have I1:=kp z0;have I2:=kp z1;have I3:=kp z2;clear hi0 z0 z1 z2;obtain ⟨hlen0,hlen3⟩:=stands_len hs
 have HP:=kp (show ∀ (x y:Int) (b:Bool) w',sortProg g t n=(x,y)→decide (y=0)=b→Below w.heap.size w w'→SortPost g t n w (.returned (.tuple #[.int .i64 x,.bool b])) w' from fun x y b w' h1 h2 h3=>by
  unfold SortPost;rw [h1];exact⟨by rw [← h2],h3⟩)
 have HArg:=kp (fun(i:Nat) (h:(i:Int) < n.len)=>stands_arg hs h);have HT:=kp ht;have HS:=kp h;have HI:=kp hi;have HA:=kp (show sortProg g t n=if n.op=13 then appProg g n.fn (sortsTo t n n.len.toNat) else opProg n.op (sortsTo t n n.len.toNat) from rfl);have HApp:=kp (fun W (hW:Below w.heap.size w W) A l c hl hn=>tyapp_any (h.on hW) hg hl1 hl2 hl3 (A:=A) (l:=l) c n.fn hi.fn hl hn);have HOp:=kp (fun W A l c hl hn hc hcm=>tyop_any (w:=W) (A:=A) (l:=l) (c:=c) n.op hi.op hl hn hc hcm);clear hs h hg ht hi;obtain ⟨m,hm⟩:∃ m:Nat,n.len=(m:Int):=⟨n.len.toNat,by omega⟩;rw [hm] at HA HArg hlen0 hlen3;rw [Int.toNat_natCast] at HA;have hm3:m≤3:=by omega
 have HMk:=run_make3;unfold nodeV;rw [hm];generalize SortPost g t n w=PP at *;generalize sortProg g t n=res at *;have S1:=kp (Bk.new w (.cells #[.slice A1 g.sorts.length c1,.slice A2 g.funs.length c2,.slice A3 g.macros.length c3] 26));have S2:=kp (Bk.keep (Bk.keep S1.out (.cells #[.slice A t.length c] 38)) (.cells #[.int .i8 n.op,.int .i8 (m:Int),.int .i64 n.a0,.int .i64 n.a1,.int .i64 n.a2,.int .i64 n.sort,.int .i64 n.fn,.int .i64 n.n] 55));have T1:=kp (Bk.new (w.alloc (.cells #[.slice A1 g.sorts.length c1,.slice A2 g.funs.length c2,.slice A3 g.macros.length c3] 26)) (.cells #[.slice A t.length c] 38));have T2:=kp (Bk.keep T1.out (.cells #[.int .i8 n.op,.int .i8 (m:Int),.int .i64 n.a0,.int .i64 n.a1,.int .i64 n.a2,.int .i64 n.sort,.int .i64 n.fn,.int .i64 n.n] 55));have N2:=kp (Bk.new ((w.alloc (.cells #[.slice A1 g.sorts.length c1,.slice A2 g.funs.length c2,.slice A3 g.macros.length c3] 26)).alloc (.cells #[.slice A t.length c] 38)) (.cells #[.int .i8 n.op,.int .i8 (m:Int),.int .i64 n.a0,.int .i64 n.a1,.int .i64 n.a2,.int .i64 n.sort,.int .i64 n.fn,.int .i64 n.n] 55));have B2:=kp ((((Below.refl w.heap.size w).alloc (Nat.le_refl _) (.cells #[.slice A1 g.sorts.length c1,.slice A2 g.funs.length c2,.slice A3 g.macros.length c3] 26)).alloc (by simp) (.cells #[.slice A t.length c] 38)).alloc (by simp;omega) (.cells #[.int .i8 n.op,.int .i8 (m:Int),.int .i64 n.a0,.int .i64 n.a1,.int .i64 n.a2,.int .i64 n.sort,.int .i64 n.fn,.int .i64 n.n] 55))
 rw [show(w.alloc (.cells #[.slice A1 g.sorts.length c1,.slice A2 g.funs.length c2,.slice A3 g.macros.length c3] 26)).heap.size=w.heap.size+1 by simp] at T2;rw [show((w.alloc (.cells #[.slice A1 g.sorts.length c1,.slice A2 g.funs.length c2,.slice A3 g.macros.length c3] 26)).alloc (.cells #[.slice A t.length c] 38)).heap.size=w.heap.size+2 by simp] at N2;have Z2:=kp (show(((w.alloc (.cells #[.slice A1 g.sorts.length c1,.slice A2 g.funs.length c2,.slice A3 g.macros.length c3] 26)).alloc (.cells #[.slice A t.length c] 38)).alloc (.cells #[.int .i8 n.op,.int .i8 (m:Int),.int .i64 n.a0,.int .i64 n.a1,.int .i64 n.a2,.int .i64 n.sort,.int .i64 n.fn,.int .i64 n.n] 55)).heap.size=w.heap.size+3 by simp);clear S1 T1
 go_enter Tryz.func44,Tryz.ntmps44
 go_upto_region 1 with fail
 generalize ((w.alloc (.cells #[.slice A1 g.sorts.length c1,.slice A2 g.funs.length c2,.slice A3 g.macros.length c3] 26)).alloc (.cells #[.slice A t.length c] 38)).alloc (.cells #[.int .i8 n.op,.int .i8 (m:Int),.int .i64 n.a0,.int .i64 n.a1,.int .i64 n.a2,.int .i64 n.sort,.int .i64 n.fn,.int .i64 n.n] 55)=w2 at *;go_upto_region 2 with fail
 have S3:=kp (Bk.keep S2.out (.cells #[.int .i64 0,.int .i64 0,.int .i64 0] 3));have T3:=kp (Bk.keep T2.out (.cells #[.int .i64 0,.int .i64 0,.int .i64 0] 3));have N3:=kp (Bk.keep N2.out (.cells #[.int .i64 0,.int .i64 0,.int .i64 0] 3));have B3:=kp (B2.out.alloc (by rw [Z2.out];omega) (.cells #[.int .i64 0,.int .i64 0,.int .i64 0] 3));have O3:=kp (show World.ownsRow (w2.alloc (.cells #[.int .i64 0,.int .i64 0,.int .i64 0] 3)) (w.heap.size+3) 3 1 (.slice (some ⟨w.heap.size+3,0,none⟩) 0 3) 0 [] by have h:=owns_made w2 #[.int .i64 0,.int .i64 0,.int .i64 0] 3 3 rfl (by unfold maxLen;omega);rwa [Z2.out] at h);have Z3:=kp (show w.heap.size+4≤(w2.alloc (.cells #[.int .i64 0,.int .i64 0,.int .i64 0] 3)).heap.size by simp [Z2.out]);try rw [Z2.out]
 clear S2 T2 N2 B2;generalize w2.alloc (.cells #[.int .i64 0,.int .i64 0,.int .i64 0] 3)=w3 at *;clear Z2;obtain ⟨q0,q1,q2,q3,q4,q5,q6,q7,qf⟩:=Bk.c8 N3.out;have hm128:(m:Int) < 128:=by omega
 go_wp2_with fail
 go_loopw [8,19] (fun v' i' wr=>∃ k:Nat,k≤m∧i'=.int .i64 k∧v'=.slice (some ⟨w.heap.size+3,0,none⟩) k 3∧wr.ownsRow (w.heap.size+3) 3 1 (.slice (some ⟨w.heap.size+3,0,none⟩) k 3) k ((sortsTo t n k).map (Value.int .i64))∧Below (w.heap.size+3) w3 wr) (fun _ i' _=>m - (intOf i').toNat)
 case atStart=>exact⟨0,Nat.zero_le _,rfl,rfl,O3.out,Below.refl _ _⟩
 case round =>
  obtain ⟨k,hk,rfl,rfl,ho,hb⟩:=hrel;have HO:=kp ho;have HB:=kp hb;have HBw:=kp (B3.out.trans (hb.mono (by omega)));have NR:=kp (Bk.on' N3.out hb (by omega));have TR:=kp (Bk.on' T3.out hb (by omega));have SR:=kp (Bk.on' S3.out hb (by omega));clear ho hb q0 q1 q2 q3 q4 q5 q6 q7 qf
  by_cases hlt:k < m
  ·have hlt2:(k:Int) < (m:Int):=by omega
   have hk3:k < 3:=by omega
   have p1:=NodeAt.arg' (node_block (n:=⟨n.op,m,n.a0,n.a1,n.a2,n.sort,n.fn,n.n⟩) NR.out) hk3;rw [Nat.zero_add,show Node.arg ⟨n.op,m,n.a0,n.a1,n.a2,n.sort,n.fn,n.n⟩ k=n.arg k from rfl] at p1;have ha1:=HArg.out k hlt2;have HSs:=kp (sortsTo_succ t n k);generalize n.arg k=y at *;obtain ⟨j,rfl⟩:∃ j:Nat,y=(j:Int):=⟨y.toNat,by omega⟩;rw [Int.toNat_natCast] at HSs;have hj:j < t.length:=by omega
   obtain ⟨x,hx⟩:∃ x,t[j]?=some x:=⟨_,List.getElem?_eq_getElem hj⟩;rw [List.getD_eq_getElem?_getD,hx,Option.getD_some] at HSs;obtain ⟨b,o,hA,hxa,hxi⟩:=node_get (HT.out.on NodeR.lasts HBw.out) hx;subst hA;have HX:=kp hxa;have OA:=kp (show World.ownsRow (wr.alloc (.cells #[.int .i64 x.sort] 3)) (w.heap.size+3) 3 1 (.slice (some ⟨w.heap.size+3,0,none⟩) k 3) k ((sortsTo t n k).map (Value.int .i64)) from HO.out.alloc _)
   have NC:=kp (show ∀ (q:Nat) u,[Value.int .i64 x.sort][q]?=some u→(wr.alloc (.cells #[.int .i64 x.sort] 3)).cell? (Addr.add ⟨wr.heap.size,0,none⟩ q)=some u from fun q u hu=>by
    rw [Addr.add_lit,Nat.zero_add,World.cell?_alloc_mark];simpa using hu)
   have hj2:(j:Int) < (t.length:Int):=by omega
   obtain ⟨t0,tf⟩:=Bk.c1 TR.out;obtain ⟨_,_,_,_,_,_,q5,_,_⟩:=HX.out;clear hx hxa ha1
   go_wp2_with (at_builtin;refine wpList_append_fits _ rfl (.tmp 23) (.tmp 30) _ rfl (w.heap.size+3) 3 i0 1 Tryz.underlying111 I0.out I2.out (w.heap.size+3) k 3 ((sortsTo t n k).map (Value.int .i64)) rfl OA.out ⟨wr.heap.size,0,none⟩ 1 1 [.int .i64 x.sort] rfl rfl NC.out (by simp [Value.oneCell']) (by omega) ?_)
   intro w5 hown hgr;have HO5:=kp (show w5.ownsRow (w.heap.size+3) 3 1 (.slice (some ⟨w.heap.size+3,0,none⟩) (k+1) 3) (k+1) ((sortsTo t n (k+1)).map (Value.int .i64)) by rw [HSs.out,List.map_append];exact hown);have HB5:=kp ((HB.out.alloc (by have:=Z3.out;have:=HB.out.size;omega) (.cells #[.int .i64 x.sort] 3)).grown hgr (by have:=Z3.out;have:=HB.out.size;simp;omega) (fun j hj=>by cases hj;omega));clear hown hgr t0 tf q5 p1;go_wp2_with fail
   go_roundw
   case rel=>exact⟨k+1,by omega,by go_num,rfl,HO5.out,HB5.out⟩
   case measure=>simp [intOf];omega
  ·obtain rfl:k=m:=by omega
   have HLn:=kp (sortsTo_len t n k);have HCl:=kp (Cells.own HO.out);obtain ⟨q0,q1,q2,q3,q4,q5,q6,q7,qf⟩:=Bk.c8 NR.out;obtain ⟨s0,s1,s2,sf⟩:=Bk.c3 SR.out;generalize sortsTo t n k=l at *
   by_cases ho:n.op=13
   ·have hop:(n.op == 13)=true:=by rw [ho];rfl
    have HAp:=kp (HApp.out wr HBw.out _ l 3 HCl.out (by have:=HLn.out;omega));rw [HLn.out] at HAp;have HE:=kp (HA.out.trans (if_pos ho));unfold AppPost at HAp;generalize n.fn=fn at *;generalize n.op=op at *;clear ho;generalize appProg g fn l=r at *;obtain ⟨r1,r2⟩:=r;go_wp2_with fail
    refine HAp.out.mono ?_;rintro e w6 ⟨rfl,hb6⟩;have B6:=kp (HBw.out.trans (hb6.mono HBw.out.size));clear hb6;go_wp2_with fail
    exact HP.out _ _ _ _ HE.out rfl B6.out
   ·have hop:(n.op == 13)=false:=by rw [beq_eq_false_iff_ne];exact ho
    have HAp:=kp (HOp.out wr _ l 3 HCl.out (by have:=HLn.out;omega) (by have:=HLn.out;omega) (by unfold maxLen;omega));rw [HLn.out] at HAp;have HE:=kp (HA.out.trans (if_neg ho));unfold OpPost at HAp;generalize n.op=op at *;clear ho;generalize opProg op l=r at *;obtain ⟨r1,r2⟩:=r;go_wp2_with fail
    refine HAp.out.mono ?_;rintro e w6 ⟨rfl,hb6⟩;have B6:=kp (HBw.out.trans (hb6.mono HBw.out.size));clear hb6;go_wp2_with fail
    exact HP.out _ _ _ _ HE.out rfl B6.out
def sortedN (g:Sig) (t:List Node) (n:Node):Bool:=decide ((sortProg g t n).2=0) && decide ((sortProg g t n).1=n.sort)
def sortedB (g:Sig) (t:List Node):Bool:=t.all fun n=>sortedN g t n
def tableE (g:Sig) (t:List Node):Int:=if checkE g≠0∨checkTE t≠0 then 2 else if sortedB g t then 0 else 33
theorem sortedB_stop {g:Sig} {t:List Node} {k:Nat} {n:Node} (hn:t[k]?=some n) (h:sortedN g t n=false):sortedB g t=false:=by
 unfold sortedB;rw [List.all_eq_false];exact⟨n,List.mem_of_getElem? hn,by rw [h];simp⟩
theorem sortedB_all {g:Sig} {t:List Node} (h:∀ k n,k < t.length→t[k]?=some n→sortedN g t n=true):sortedB g t=true:=by
 unfold sortedB;rw [List.all_eq_true];intro x hx;obtain ⟨k,hk⟩:=List.getElem?_of_mem hx;exact h k x (List.getElem?_eq_some_iff.1 hk).1 hk
theorem check_stands {t:List Node} (h:checkTE t=0) {k:Nat} {n:Node} (hn:t[k]?=some n):standsN n k=true:=by
 unfold checkTE at h
 split at h
 ·rename_i hc
  unfold checkT at hc;simp only [Bool.and_eq_true] at hc;have h2:=hc.1.2;unfold standsTo at h2;rw [List.all_eq_true] at h2;have:=h2 k (List.mem_range.2 (List.getElem?_eq_some_iff.1 hn).1)
  rwa [hn] at this
 ·cases h
set_option maxRecDepth 100000 in
set_option maxHeartbeats 6400000 in
theorem tytable_any {w:World} {A1 A2 A3:Option Addr} {c1 c2 c3:Nat} {g:Sig} (h:SigAt w A1 c1 A2 c2 A3 c3 g) (hl1:g.sorts.length≤1000000) (hl2:g.funs.length≤1000000) (hl3:g.macros.length≤1000000) {A:Option Addr} {t:List Node} {c:Nat} (ht:Lies 8 NodeR w A t) (hn:t.length≤1000000) (hc:t.length≤c) (hcm:c≤maxLen) :
  Calls Tryz.prog 28 #[.agg #[.slice A1 g.sorts.length c1,.slice A2 g.funs.length c2,.slice A3 g.macros.length c3],.agg #[.slice A t.length c]] w fun e w'=>e=.returned (.int .i64 (tableE g t))∧Below w.heap.size w w':=by
 have HE:=kp (show tableE g t=if checkE g≠0∨checkTE t≠0 then 2 else if sortedB g t then 0 else 33 from rfl);have HT:=kp ht;have HS:=kp h;have HCs:=kp (fun W (hW:Below w.heap.size w W)=>check_any (h.on hW) (by omega) (by omega) (by omega));have HCt:=kp (fun W (hW:Below w.heap.size w W)=>tcheck_any (ht.on NodeR.lasts hW) hn hc hcm);have HSt:=kp (fun(hz:checkTE t=0) k n hk=>check_stands hz (k:=k) (n:=n) hk);have HSo:=kp (fun(hg:checkE g=0) W (hW:Below w.heap.size w W) n (hi:NodeI n) (a:Int) (hs:standsN n a=true) (ha:a≤t.length)=>tysort_any (h.on hW) hg hl1 hl2 hl3 c (ht.on NodeR.lasts hW) hi hs ha);have S1:=kp (Bk.keep (Bk.new w (.cells #[.slice A1 g.sorts.length c1,.slice A2 g.funs.length c2,.slice A3 g.macros.length c3] 26)) (.cells #[.slice A t.length c] 38));have T1:=kp (Bk.new (w.alloc (.cells #[.slice A1 g.sorts.length c1,.slice A2 g.funs.length c2,.slice A3 g.macros.length c3] 26)) (.cells #[.slice A t.length c] 38));rw [show(w.alloc (.cells #[.slice A1 g.sorts.length c1,.slice A2 g.funs.length c2,.slice A3 g.macros.length c3] 26)).heap.size=w.heap.size+1 by simp] at T1;have B1:=kp (((Below.refl w.heap.size w).alloc (Nat.le_refl _) (.cells #[.slice A1 g.sorts.length c1,.slice A2 g.funs.length c2,.slice A3 g.macros.length c3] 26)).alloc (by simp) (.cells #[.slice A t.length c] 38));have Z1:=kp (show w.heap.size+2≤((w.alloc (.cells #[.slice A1 g.sorts.length c1,.slice A2 g.funs.length c2,.slice A3 g.macros.length c3] 26)).alloc (.cells #[.slice A t.length c] 38)).heap.size by simp)
 clear h ht;generalize tableE g t=res at *;have HAll:=kp (fun h=>sortedB_all (g:=g) (t:=t) h);have HStop:=kp (fun k n hn h=>sortedB_stop (g:=g) (t:=t) (k:=k) (n:=n) hn h);generalize sortedB g t=sb at *
 go_enter Tryz.func28,Tryz.ntmps28
 go_upto_region 1 with fail
 generalize (w.alloc (.cells #[.slice A1 g.sorts.length c1,.slice A2 g.funs.length c2,.slice A3 g.macros.length c3] 26)).alloc (.cells #[.slice A t.length c] 38)=w1 at *;obtain ⟨s0,s1,s2,sf⟩:=Bk.c3 S1.out;go_wp2_with fail
 refine(HCs.out w1 B1.out).mono ?_;rintro e w2 ⟨rfl,hb2⟩;have B2:=kp (B1.out.trans (hb2.mono B1.out.size));have S2:=kp (Bk.on S1.out hb2);have T2:=kp (Bk.on T1.out hb2);have Z2:=kp (Nat.le_trans Z1.out hb2.size);clear hb2 s0 s1 s2 sf S1 T1 Z1;generalize checkE g=cg at *
 by_cases hg:cg=0
 ·have hg':(cg != 0)=false:=by simp [hg]
  have HG:=kp hg;clear hg;obtain ⟨t0,tf⟩:=Bk.c1 T2.out;go_wp2_with fail
  refine(HCt.out w2 B2.out).mono ?_;rintro e w3 ⟨rfl,hb3⟩;have B3:=kp (B2.out.trans (hb3.mono B2.out.size));have S3:=kp (Bk.on S2.out hb3);have T3:=kp (Bk.on T2.out hb3);have Z3:=kp (Nat.le_trans Z2.out hb3.size);clear hb3 t0 tf S2 T2 Z2;generalize checkTE t=ct at *
  by_cases hct:ct=0
  ·have hct':(ct != 0)=false:=by simp [hct]
   replace HE:=kp (HE.out.trans (if_neg (by rw [HG.out,hct];simp)));have HSt2:=kp (HSt.out hct);clear hct HSt;obtain ⟨t0,tf⟩:=Bk.c1 T3.out;go_wp2_with fail
   go_loopw [20] (fun i' wr=>∃ k:Nat,k≤t.length∧i'=.int .i64 k∧Below (w.heap.size+2) w3 wr∧∀ j n,j < k→t[j]?=some n→sortedN g t n=true) (fun i' _=>t.length - (intOf i').toNat)
   case atStart=>exact⟨0,Nat.zero_le _,rfl,Below.refl _ _,fun j n hj=>by omega⟩
   case round =>
    obtain ⟨k,hk,rfl,hb,hto⟩:=hrel;have HTo:=kp hto;have HB:=kp hb;have HBw:=kp (B3.out.trans (hb.mono (by omega)));have SR:=kp (Bk.on' S3.out hb (by omega));have TR:=kp (Bk.on' T3.out hb (by omega));clear hb t0 tf hto
    by_cases hlt:k < t.length
    ·have hlt2:(k:Int) < (t.length:Int):=by omega
     obtain ⟨n,hn2⟩:∃ n,t[k]?=some n:=⟨_,List.getElem?_eq_getElem hlt⟩;obtain ⟨b,o,hA,hxa,hxi⟩:=node_get (HT.out.on NodeR.lasts HBw.out) hn2;subst hA;have HX:=kp hxa;have HSn:=kp (HSt2.out k n hn2);have HI:=kp hxi
     have HTk:=kp (show sortedN g t n=true→∀ j m,j < k+1→t[j]?=some m→sortedN g t m=true from fun he j m hj hm=>by
      by_cases h:j < k
      ·exact HTo.out j m h hm
      ·obtain rfl:j=k:=by omega
       rw [hn2] at hm;cases hm;exact he)
     have HNk:=kp (fun hf=>HStop.out k n hn2 hf);obtain ⟨_,x0,x1,x2,x3,x4,x5,x6,x7⟩:=hxa;have NB:=kp (Bk.new wr (.cells #[.int .i8 n.op,.int .i8 n.len,.int .i64 n.a0,.int .i64 n.a1,.int .i64 n.a2,.int .i64 n.sort,.int .i64 n.fn,.int .i64 n.n] 55));have SB:=kp (Bk.keep SR.out (.cells #[.int .i8 n.op,.int .i8 n.len,.int .i64 n.a0,.int .i64 n.a1,.int .i64 n.a2,.int .i64 n.sort,.int .i64 n.fn,.int .i64 n.n] 55));have TB:=kp (Bk.keep TR.out (.cells #[.int .i8 n.op,.int .i8 n.len,.int .i64 n.a0,.int .i64 n.a1,.int .i64 n.a2,.int .i64 n.sort,.int .i64 n.fn,.int .i64 n.n] 55));have HBn:=kp (HB.out.alloc (by have:=Z3.out;have:=HB.out.size;omega) (.cells #[.int .i8 n.op,.int .i8 n.len,.int .i64 n.a0,.int .i64 n.a1,.int .i64 n.a2,.int .i64 n.sort,.int .i64 n.fn,.int .i64 n.n] 55));have BN:=kp (HBw.out.alloc HBw.out.size (.cells #[.int .i8 n.op,.int .i8 n.len,.int .i64 n.a0,.int .i64 n.a1,.int .i64 n.a2,.int .i64 n.sort,.int .i64 n.fn,.int .i64 n.n] 55));have HSn2:=kp (fun W hW=>HSo.out HG.out W hW n HI.out k HSn.out (by omega));unfold nodeV SortPost at HSn2;have HSd:=kp (show sortedN g t n=(decide ((sortProg g t n).2=0) && decide ((sortProg g t n).1=n.sort)) from rfl);clear hn2 hxi;generalize sortedN g t n=sn at *;generalize sortProg g t n=r at *;obtain ⟨r1,r2⟩:=r;obtain ⟨t0,tf⟩:=Bk.c1 TR.out;go_upto_region 6 with fail
     have hwn:wr.heap.size < (wr.alloc (.cells #[.int .i8 n.op,.int .i8 n.len,.int .i64 n.a0,.int .i64 n.a1,.int .i64 n.a2,.int .i64 n.sort,.int .i64 n.fn,.int .i64 n.n] 55)).heap.size:=by simp
     generalize wr.alloc (.cells #[.int .i8 n.op,.int .i8 n.len,.int .i64 n.a0,.int .i64 n.a1,.int .i64 n.a2,.int .i64 n.sort,.int .i64 n.fn,.int .i64 n.n] 55)=wn at *;clear x0 x1 x2 x3 x4 x5 x6 x7 t0 tf;obtain ⟨t0,tf⟩:=Bk.c1 TB.out;obtain ⟨s0,s1,s2,sf⟩:=Bk.c3 SB.out;obtain ⟨x0,x1,x2,x3,x4,x5,x6,x7,xf⟩:=Bk.c8 NB.out;go_wp2_with fail
     refine(HSn2.out wn BN.out).mono ?_;rintro e w6 ⟨rfl,hb6⟩;have B6:=kp (BN.out.trans (hb6.mono BN.out.size));have H6:=kp (HBn.out.trans (hb6.mono (by have:=Z3.out;have:=HBn.out.size;omega)));have N6:=kp (Bk.on NB.out hb6);clear hb6 t0 tf s0 s1 s2 sf x0 x1 x2 x3 x4 x5 x6 x7 xf;obtain ⟨x0,x1,x2,x3,x4,x5,x6,x7,xf⟩:=Bk.c8 N6.out
     by_cases hr2:r2=0
     ·have hr2':decide (r2=0)=true:=by simp [hr2]
      by_cases hr1:r1=n.sort
      ·have hr1':(r1 != n.sort)=false:=by simp [hr1]
       have HQ:=kp (HTk.out (by rw [HSd.out,hr2,hr1];simp));clear hr2 hr1;go_wp2_with fail
       go_roundw
       case rel=>exact⟨k+1,by omega,by go_num,H6.out,HQ.out⟩
       case measure=>simp [intOf];omega
      ·have hr1':(r1 != n.sort)=true:=by simp [hr1]
       have HQ:=kp (HNk.out (by rw [HSd.out];simp [hr1]));clear hr2 hr1;rw [HQ.out] at HE;go_wp2_with fail
       go_ret;exact⟨ret_int HE.out.symm,B6.out⟩
     ·have hr2':decide (r2=0)=false:=by simp [hr2]
      have HQ:=kp (HNk.out (by rw [HSd.out];simp [hr2]));clear hr2;rw [HQ.out] at HE;go_wp2_with fail
      go_ret;exact⟨ret_int HE.out.symm,B6.out⟩
    ·have hke:k=t.length:=by omega
     have HQ:=kp (show sb=true from HAll.out fun j n hj hn=>HTo.out j n (by omega) hn);rw [HQ.out] at HE;clear hke;go_wp2_with fail
     go_ret;exact⟨ret_int HE.out.symm,HBw.out⟩
  ·have hct':(ct != 0)=true:=by simp [hct]
   replace HE:=kp (HE.out.trans (if_pos (.inr hct)));clear hct;go_wp2_with fail
   go_ret;exact⟨ret_int HE.out.symm,B3.out⟩
 ·have hg':(cg != 0)=true:=by simp [hg]
  replace HE:=kp (HE.out.trans (if_pos (.inl hg)));clear hg;go_wp2_with fail
  go_ret;exact⟨ret_int HE.out.symm,B2.out⟩
end Go.Proofs.YtpmdcckapddchaaGreat.El
