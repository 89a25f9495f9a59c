import Derived.Test.YtmcbolkpbklfeaaGreatDoorShort
import Derived.Test.YtmcbolkpbklfeaaGreatDoorMzc
import Derived.Test.YtmcbolkpbklfeaaGreatDoorMw
/- merged by wip/merge.py from: TySort -/
set_option maxRecDepth 100000
set_option maxHeartbeats 51200000
namespace Go.Proofs.YtmcbolkpbklfeaaGreatDoor
namespace El
open Go.RowKit Dt Sg
theorem arity_three {op:Int} {p:Int × Int} (h:arityN op=some p):0<=p.1/\p.2<=3:=by
 unfold arityN at h
 repeat' split at h
 all_goals first | (cases h;exact⟨by decide,by decide⟩) | cases h
theorem stands_len {n:Node} {a:Int} (h:standsN n a=true):0<=n.len/\n.len<=3:=by
 unfold standsN at h
 cases ho:arityN n.op with
 | none=>rw [ho] at h;cases h
 | some p =>
  rw [ho] at h;simp only [Bool.and_eq_true,decide_eq_true_eq] at h;have:=arity_three ho;have:=h.1.1.1.1.1.1.1
  omega
theorem stands_arg {n:Node} {a:Int} (h:standsN n a=true) {i:Nat} (hi:(i:Int) < n.len):0<=n.arg i/\n.arg i < a:=by
 have hl:=stands_len h;unfold standsN at h
 cases ho:arityN n.op with
 | none=>rw [ho] at h;cases h
 | some p =>
  rw [ho] at h;simp only [Bool.and_eq_true] at h;have h0:=h.1.1.1.1.1.2;have h1:=h.1.1.1.1.2;have h2:=h.1.1.1.2;have hc:i=0\/i=1\/i=2:=by omega
  rcases hc with rfl | rfl | rfl
  ·unfold argOkB at h0;rw [if_pos hi] at h0;exact of_decide_eq_true h0
  ·unfold argOkB at h1;rw [if_pos hi] at h1;exact of_decide_eq_true h1
  ·unfold argOkB at h2;rw [if_pos hi] at h2;exact of_decide_eq_true h2
theorem NodeAt.arg' {w:World} {b o:Nat} {n:Node} (h:NodeAt w b o n) {i:Nat} (hi:i < 3):w.cell? ⟨b,o+2+i,none⟩=some (.int .i64 (n.arg i)):=by
 obtain ⟨hl,h0,h1,h2,h3,h4,h5⟩:=h;have hc:i=0\/i=1\/i=2:=by omega
 rcases hc with rfl | rfl | rfl
 ·exact h2
 ·exact h3
 ·exact h4
def sortsTo (t:List Node) (n:Node) (k:Nat):List Int:=(List.range k).map fun i=>(t.getD (n.arg i).toNat nodeTrue).sort
theorem sortsTo_len (t:List Node) (n:Node) (k:Nat):(sortsTo t n k).length=k:=by unfold sortsTo;simp
theorem sortsTo_succ (t:List Node) (n:Node) (k:Nat):sortsTo t n (k+1)=sortsTo t n k ++ [(t.getD (n.arg k).toNat nodeTrue).sort]:=by unfold sortsTo;rw [List.range_succ,List.map_append];rfl
def sortProg (g:Sig) (t:List Node) (n:Node):Int × Int:=if n.op=13 then appProg g n.fn (sortsTo t n n.len.toNat) else opProg n.op (sortsTo t n n.len.toNat)
def SortPost (g:Sig) (t:List Node) (n:Node) (w:World) (e:Ending) (w':World):Prop:=e=.returned (.tuple #[.int .i64 (sortProg g t n).1,.bool (decide ((sortProg g t n).2=0))])/\Below w.heap.size w w'
theorem run_make3 (W:World):(Instr.makeSlice 97 (.int .i64 0) (.int .i64 3)).run Tryz.prog W=.ok (.slice (some ⟨W.heap.size,0,none⟩) 0 3) (W.alloc (.cells #[.int .i64 0,.int .i64 0,.int .i64 0] 3)):=by kernel_rfl
theorem owns_made (w:World) (vs:Array Value) (e:TypeId) (n:Nat) (hn:vs.size=n) (hm:n<=maxLen):(w.alloc (.cells vs e)).ownsRow w.heap.size e 1 (.slice (some ⟨w.heap.size,0,none⟩) 0 n) 0 [] :=
 ⟨by simp,.inr ⟨w.heap.size,n,vs,rfl,nlq,by show(w.heap.push _)[w.heap.size]?=_;exact Array.getElem?_push_size,Nat.zero_le _,hm,by rw [hn,Nat.mul_one],by simp⟩⟩
theorem tysort_any {w:World} {A1 A2 A3:Option Addr} {c1 c2 c3:Nat} {g:Sig} (h:SigAt w A1 c1 A2 c2 A3 c3 g) (hg:checkE g=0) (hl1:g.sorts.length<=1000000) (hl2:g.funs.length<=1000000) (hl3:g.macros.length<=1000000) {A:Option Addr} {t:List Node} (c:Nat) (ht:Lies 8 NodeR w A t) {n:Node} (hi:NodeI n) {a:Int} (hs:standsN n a=true) (ha:a<=t.length) :
  Calls Tryz.prog 171 #[.agg #[.slice A1 g.sorts.length c1,.slice A2 g.funs.length c2,.slice A3 g.macros.length c3],.agg #[.slice A t.length c],nodeV n] w (SortPost g t n w):=by
 obtain ⟨i0,hi0,z0,z1,z2⟩:=info_parts info_int;have I0:=kp hi0;have I1:=kp z0;have I2:=kp z1;have I3:=kp z2;clear hi0 z0 z1 z2;obtain ⟨hlen0,hlen3⟩:=stands_len hs
 have HP:=kp (show ∀ (x y:Int) (b:Bool) w',sortProg g t n=(x,y)->decide (y=0)=b->Below w.heap.size w w'->SortPost g t n w (.returned (.tuple #[.int .i64 x,.bool b])) w' from fun x y b w' h1 h2 h3=>by
  unfold SortPost;rw [h1];exact⟨by rw [← h2],h3⟩)
 have HArg:=kp (fun(i:Nat) (h:(i:Int) < n.len)=>stands_arg hs h);have HT:=kp ht;have HS:=kp h;have HI:=kp hi;have HA:=kp (show sortProg g t n=if n.op=13 then appProg g n.fn (sortsTo t n n.len.toNat) else opProg n.op (sortsTo t n n.len.toNat) from rfl);have HApp:=kp (fun W (hW:Below w.heap.size w W) A l c hl hn=>tyapp_any (h.on hW) hg hl1 hl2 hl3 (A:=A) (l:=l) c n.fn hi.fn hl hn);have HOp:=kp (fun W A l c hl hn hc hcm=>tyop_any (w:=W) (A:=A) (l:=l) (c:=c) n.op hi.op hl hn hc hcm);clear hs h hg ht hi;obtain ⟨m,hm⟩:∃ m:Nat,n.len=(m:Int):=⟨n.len.toNat,by omega⟩;rw [hm] at HA HArg hlen0 hlen3;rw [Int.toNat_natCast] at HA;have hm3:m<=3:=by omega
 have HMk:=run_make3;unfold nodeV;rw [hm];generalize SortPost g t n w=PP at *;generalize sortProg g t n=res at *;have S1:=kp (Bk.new w (.cells #[.slice A1 g.sorts.length c1,.slice A2 g.funs.length c2,.slice A3 g.macros.length c3] 93));have S2:=kp (Bk.keep (Bk.keep S1.out (.cells #[.slice A t.length c] 96)) (.cells #[.int .i8 n.op,.int .i8 (m:Int),.int .i64 n.a0,.int .i64 n.a1,.int .i64 n.a2,.int .i64 n.sort,.int .i64 n.fn,.int .i64 n.n] 166));have T1:=kp (Bk.new (w.alloc (.cells #[.slice A1 g.sorts.length c1,.slice A2 g.funs.length c2,.slice A3 g.macros.length c3] 93)) (.cells #[.slice A t.length c] 96));have T2:=kp (Bk.keep T1.out (.cells #[.int .i8 n.op,.int .i8 (m:Int),.int .i64 n.a0,.int .i64 n.a1,.int .i64 n.a2,.int .i64 n.sort,.int .i64 n.fn,.int .i64 n.n] 166));have N2:=kp (Bk.new ((w.alloc (.cells #[.slice A1 g.sorts.length c1,.slice A2 g.funs.length c2,.slice A3 g.macros.length c3] 93)).alloc (.cells #[.slice A t.length c] 96)) (.cells #[.int .i8 n.op,.int .i8 (m:Int),.int .i64 n.a0,.int .i64 n.a1,.int .i64 n.a2,.int .i64 n.sort,.int .i64 n.fn,.int .i64 n.n] 166));have B2:=kp ((((brq w).alloc nlq (.cells #[.slice A1 g.sorts.length c1,.slice A2 g.funs.length c2,.slice A3 g.macros.length c3] 93)).alloc (by simp) (.cells #[.slice A t.length c] 96)).alloc (by simp;omega) (.cells #[.int .i8 n.op,.int .i8 (m:Int),.int .i64 n.a0,.int .i64 n.a1,.int .i64 n.a2,.int .i64 n.sort,.int .i64 n.fn,.int .i64 n.n] 166))
 rw [show(w.alloc (.cells #[.slice A1 g.sorts.length c1,.slice A2 g.funs.length c2,.slice A3 g.macros.length c3] 93)).heap.size=w.heap.size+1 by simp] at T2;rw [show((w.alloc (.cells #[.slice A1 g.sorts.length c1,.slice A2 g.funs.length c2,.slice A3 g.macros.length c3] 93)).alloc (.cells #[.slice A t.length c] 96)).heap.size=w.heap.size+2 by simp] at N2;have Z2:=kp (show(((w.alloc (.cells #[.slice A1 g.sorts.length c1,.slice A2 g.funs.length c2,.slice A3 g.macros.length c3] 93)).alloc (.cells #[.slice A t.length c] 96)).alloc (.cells #[.int .i8 n.op,.int .i8 (m:Int),.int .i64 n.a0,.int .i64 n.a1,.int .i64 n.a2,.int .i64 n.sort,.int .i64 n.fn,.int .i64 n.n] 166)).heap.size=w.heap.size+3 by simp);clear S1 T1
 go_enter Tryz.func171,Tryz.ntmps171
 go_upto_region 1 with fail
 generalize ((w.alloc (.cells #[.slice A1 g.sorts.length c1,.slice A2 g.funs.length c2,.slice A3 g.macros.length c3] 93)).alloc (.cells #[.slice A t.length c] 96)).alloc (.cells #[.int .i8 n.op,.int .i8 (m:Int),.int .i64 n.a0,.int .i64 n.a1,.int .i64 n.a2,.int .i64 n.sort,.int .i64 n.fn,.int .i64 n.n] 166)=w2 at *;go_upto_region 2 with fail
 have S3:=kp (Bk.keep S2.out (.cells #[.int .i64 0,.int .i64 0,.int .i64 0] 3));have T3:=kp (Bk.keep T2.out (.cells #[.int .i64 0,.int .i64 0,.int .i64 0] 3));have N3:=kp (Bk.keep N2.out (.cells #[.int .i64 0,.int .i64 0,.int .i64 0] 3));have B3:=kp (B2.out.alloc (by rw [Z2.out];omega) (.cells #[.int .i64 0,.int .i64 0,.int .i64 0] 3));have O3:=kp (show World.ownsRow (w2.alloc (.cells #[.int .i64 0,.int .i64 0,.int .i64 0] 3)) (w.heap.size+3) 3 1 (.slice (some ⟨w.heap.size+3,0,none⟩) 0 3) 0 [] by have h:=owns_made w2 #[.int .i64 0,.int .i64 0,.int .i64 0] 3 3 rfl (by unfold maxLen;omega);rwa [Z2.out] at h);have Z3:=kp (show w.heap.size+4<=(w2.alloc (.cells #[.int .i64 0,.int .i64 0,.int .i64 0] 3)).heap.size by simp [Z2.out]);try rw [Z2.out]
 clear S2 T2 N2 B2;generalize w2.alloc (.cells #[.int .i64 0,.int .i64 0,.int .i64 0] 3)=w3 at *;clear Z2;obtain ⟨q0,q1,q2,q3,q4,q5,q6,q7,qf⟩:=Bk.c8 N3.out;have hm128:(m:Int) < 128:=by omega
 go_wp2_with fail
 go_loopw [8,19] (fun v' i' wr=>∃ k:Nat,k<=m/\i'=.int .i64 k/\v'=.slice (some ⟨w.heap.size+3,0,none⟩) k 3/\wr.ownsRow (w.heap.size+3) 3 1 (.slice (some ⟨w.heap.size+3,0,none⟩) k 3) k ((sortsTo t n k).map (Value.int .i64))/\Below (w.heap.size+3) w3 wr) (fun _ i' _=>m - (intOf i').toNat)
 case atStart=>exact⟨0,Nat.zero_le _,rfl,rfl,O3.out,Below.refl _ _⟩
 case round =>
  obtain ⟨k,hk,rfl,rfl,ho,hb⟩:=hrel;have HO:=kp ho;have HB:=kp hb;have HBw:=kp (B3.out.trans (hb.mono (by omega)));have NR:=kp (Bk.on' N3.out hb (by omega));have TR:=kp (Bk.on' T3.out hb (by omega));have SR:=kp (Bk.on' S3.out hb (by omega));clear ho hb q0 q1 q2 q3 q4 q5 q6 q7 qf
  by_cases hlt:k < m
  ·have hlt2:(k:Int) < (m:Int):=by omega
   have hk3:k < 3:=by omega
   have p1:=NodeAt.arg' (node_block (n:=⟨n.op,m,n.a0,n.a1,n.a2,n.sort,n.fn,n.n⟩) NR.out) hk3;rw [Nat.zero_add,show Node.arg ⟨n.op,m,n.a0,n.a1,n.a2,n.sort,n.fn,n.n⟩ k=n.arg k from rfl] at p1;have ha1:=HArg.out k hlt2;have HSs:=kp (sortsTo_succ t n k);generalize n.arg k=y at *;obtain ⟨j,rfl⟩:∃ j:Nat,y=(j:Int):=⟨y.toNat,by omega⟩;rw [Int.toNat_natCast] at HSs;have hj:j < t.length:=by omega
   obtain ⟨x,hx⟩:∃ x,t[j]?=some x:=⟨_,gqe hj⟩;rw [List.getD_eq_getElem?_getD,hx,Option.getD_some] at HSs;obtain ⟨b,o,hA,hxa,hxi⟩:=node_get (HT.out.on NodeR.lasts HBw.out) hx;subst hA;have HX:=kp hxa;have OA:=kp (show World.ownsRow (wr.alloc (.cells #[.int .i64 x.sort] 3)) (w.heap.size+3) 3 1 (.slice (some ⟨w.heap.size+3,0,none⟩) k 3) k ((sortsTo t n k).map (Value.int .i64)) from HO.out.alloc _)
   have NC:=kp (show ∀ (q:Nat) u,[Value.int .i64 x.sort][q]?=some u->(wr.alloc (.cells #[.int .i64 x.sort] 3)).cell? (Addr.add ⟨wr.heap.size,0,none⟩ q)=some u from fun q u hu=>by
    rw [Addr.add_lit,Nat.zero_add,World.cell?_alloc_mark];simpa using hu)
   have hj2:(j:Int) < (t.length:Int):=by omega
   obtain ⟨t0,tf⟩:=Bk.c1 TR.out;obtain ⟨_,_,_,_,_,_,q5,_,_⟩:=HX.out;clear hx hxa ha1
   go_wp2_with (at_builtin;refine wpList_append_fits _ rfl (.tmp 23) (.tmp 30) _ rfl (w.heap.size+3) 3 i0 1 Tryz.underlying97 I0.out I2.out (w.heap.size+3) k 3 ((sortsTo t n k).map (Value.int .i64)) rfl OA.out ⟨wr.heap.size,0,none⟩ 1 1 [.int .i64 x.sort] rfl rfl NC.out (by simp [Value.oneCell']) (by omega) ?_)
   intro w5 hown hgr;have HO5:=kp (show w5.ownsRow (w.heap.size+3) 3 1 (.slice (some ⟨w.heap.size+3,0,none⟩) (k+1) 3) (k+1) ((sortsTo t n (k+1)).map (Value.int .i64)) by rw [HSs.out,List.map_append];exact hown);have HB5:=kp ((HB.out.alloc (by have:=Z3.out;have:=HB.out.size;omega) (.cells #[.int .i64 x.sort] 3)).grown hgr (by have:=Z3.out;have:=HB.out.size;simp;omega) (fun j hj=>by cases hj;omega));clear hown hgr t0 tf q5 p1;go_wp2_with fail
   go_roundw
   case rel=>exact⟨k+1,by omega,by go_num,rfl,HO5.out,HB5.out⟩
   case measure=>simp [intOf];omega
  ·obtain rfl:k=m:=by omega
   have HLn:=kp (sortsTo_len t n k);have HCl:=kp (Cells.own HO.out);obtain ⟨q0,q1,q2,q3,q4,q5,q6,q7,qf⟩:=Bk.c8 NR.out;obtain ⟨s0,s1,s2,sf⟩:=Bk.c3 SR.out;generalize sortsTo t n k=l at *
   by_cases ho:n.op=13
   ·have hop:(n.op == 13)=true:=by rw [ho];rfl
    have HAp:=kp (HApp.out wr HBw.out _ l 3 HCl.out (by have:=HLn.out;omega));rw [HLn.out] at HAp;have HE:=kp (HA.out.trans (if_pos ho));unfold AppPost at HAp;generalize n.fn=fn at *;generalize n.op=op at *;clear ho;generalize appProg g fn l=r at *;obtain ⟨r1,r2⟩:=r;go_wp2_with fail
    refine HAp.out.mono ?_;rintro e w6 ⟨rfl,hb6⟩;have B6:=kp (HBw.out.trans (hb6.mono HBw.out.size));clear hb6;go_wp2_with fail
    exact HP.out _ _ _ _ HE.out rfl B6.out
   ·have hop:(n.op == 13)=false:=by rw [beq_eq_false_iff_ne];exact ho
    have HAp:=kp (HOp.out wr _ l 3 HCl.out (by have:=HLn.out;omega) (by have:=HLn.out;omega) (by unfold maxLen;omega));rw [HLn.out] at HAp;have HE:=kp (HA.out.trans (if_neg ho));unfold OpPost at HAp;generalize n.op=op at *;clear ho;generalize opProg op l=r at *;obtain ⟨r1,r2⟩:=r;go_wp2_with fail
    refine HAp.out.mono ?_;rintro e w6 ⟨rfl,hb6⟩;have B6:=kp (HBw.out.trans (hb6.mono HBw.out.size));clear hb6;go_wp2_with fail
    exact HP.out _ _ _ _ HE.out rfl B6.out
end El
end Go.Proofs.YtmcbolkpbklfeaaGreatDoor
