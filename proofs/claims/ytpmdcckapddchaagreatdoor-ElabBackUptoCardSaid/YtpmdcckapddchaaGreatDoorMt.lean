import Derived.Test.YtpmdcckapddchaaGreatDoorShort
import Derived.Test.YtpmdcckapddchaaGreatDoorMr
import Derived.Test.YtpmdcckapddchaaGreatDoorMi
import Derived.Test.YtpmdcckapddchaaGreatDoorMn
import Derived.Test.YtpmdcckapddchaaGreatDoorMb
import Derived.Lib.Builder
import Derived.Lib.AppendStr
import Derived.Lib.UnsafeStr
import Derived.Deep.RegionHeld3
import Derived.Test.YtpmdcckapddchaaGreatDoorMd
import Derived.Deep.Cut
/- merged by wip/merge.py from: TyApp TySort ElBld ElWrit RTyOp RTyApp -/
set_option maxRecDepth 100000
set_option maxHeartbeats 51200000
namespace Go.Proofs.YtpmdcckapddchaaGreatDoor
namespace El
open Go.RowKit Dt Sg
def Fun4.arg (f:Fun4) (i:Nat):Int:=if i=0 then f.a0 else if i=1 then f.a1 else f.a2
def FunAt (w:World) (b o:Nat) (f:Fun4):Prop:=b < w.heap.size/\w.cell? ⟨b,o,none⟩=some (.string f.name)/\w.cell? ⟨b,o+1,none⟩=some (.int .i64 f.len)/\w.cell? ⟨b,o+2,none⟩=some (.int .i64 f.a0)/\w.cell? ⟨b,o+3,none⟩=some (.int .i64 f.a1)/\w.cell? ⟨b,o+4,none⟩=some (.int .i64 f.a2)/\w.cell? ⟨b,o+5,none⟩=some (.int .i64 f.res)
theorem FunAt.on {w w':World} {b o:Nat} {f:Fun4} (h:FunAt w b o f) (hb:Below w.heap.size w w'):FunAt w' b o f:=by
 obtain ⟨hl,h0,h1,h2,h3,h4,h5⟩:=h;have k:=fun j=>(bcell hb).1 b j hl;exact⟨Nat.lt_of_lt_of_le hl hb.size,(k _).trans h0,(k _).trans h1,(k _).trans h2,(k _).trans h3,(k _).trans h4,(k _).trans h5⟩
theorem FunAt.arg {w:World} {b o:Nat} {f:Fun4} (h:FunAt w b o f) {i:Nat} (hi:i < 3):w.cell? ⟨b,o+2+i,none⟩=some (.int .i64 (Fun4.arg f i)):=by
 obtain ⟨hl,h0,h1,h2,h3,h4,h5⟩:=h;have hc:i=0\/i=1\/i=2:=by omega
 rcases hc with rfl | rfl | rfl
 ·exact h2
 ·exact h3
 ·exact h4
structure FunI (f:Fun4):Prop where
 len:I64 f.len
 a0:I64 f.a0
 a1:I64 f.a1
 a2:I64 f.a2
 res:I64 f.res
theorem fun_get {w:World} {A:Option Addr} {l:List Fun4} (h:Lies 6 FunR w A l) {k:Nat} {f:Fun4} (hf:l[k]?=some f):∃ b o,A=some ⟨b,o,none⟩/\FunAt w b (o+k * 6) f/\FunI f:=by
 obtain ⟨b,o,vs,hA,hb,_,hc,rfl,_,h1,h2,h3,h4,h5⟩:=h.at' hf;exact⟨b,o,hA,⟨hb,hc 0 _ rfl,hc 1 _ rfl,hc 2 _ rfl,hc 3 _ rfl,hc 4 _ rfl,hc 5 _ rfl⟩,⟨h1,h2,h3,h4,h5⟩⟩
def argsB (f:Fun4) (l:List Int):Bool:=(List.range l.length).all fun i=>l.getD i 0 == Fun4.arg f i
theorem argsB_stop {f:Fun4} {l:List Int} {k:Nat} (hk:k < l.length) (h:l.getD k 0≠Fun4.arg f k):argsB f l=false:=by
 unfold argsB;rw [List.all_eq_false];exact⟨k,List.mem_range.2 hk,by simpa using h⟩
theorem argsB_all {f:Fun4} {l:List Int} (h:∀ k,k < l.length->l.getD k 0=Fun4.arg f k):argsB f l=true:=by
 unfold argsB;rw [List.all_eq_true];intro k hk;rw [h k (List.mem_range.1 hk)];simp
def appProg (g:Sig) (f:Int) (l:List Int):Int × Int :=
 if f < 0\/(g.funs.length:Int)<=f then(0,2)
 else match g.funs[f.toNat]? with
  | none=>(0,2)
  | some x=>if(l.length:Int)≠x.len then(0,2) else if argsB x l=true then(x.res,0) else(0,33)
def AppPost (g:Sig) (f:Int) (l:List Int) (w:World) (e:Ending) (w':World):Prop:=e=.returned (.tuple #[.int .i64 (appProg g f l).1,.int .i64 (appProg g f l).2])/\Below w.heap.size w w'
theorem appPost {g:Sig} {op:Int} {l:List Int} {w w':World} {a b:Int} (h:appProg g op l=(a,b)) (hb:Below w.heap.size w w'):AppPost g op l w (.returned (.tuple #[.int .i64 a,.int .i64 b])) w':=by
 unfold AppPost;rw [h];exact⟨rfl,hb⟩
theorem tyapp_any {w:World} {A1 A2 A3:Option Addr} {c1 c2 c3:Nat} {g:Sig} (h:SigAt w A1 c1 A2 c2 A3 c3 g) (hg:checkE g=0) (hl1:g.sorts.length<=1000000) (hl2:g.funs.length<=1000000) (hl3:g.macros.length<=1000000) {A:Option Addr} {l:List Int} (c:Nat) (f:Int) (hf:I64 f) (hl:Cells w A (l.map (Value.int .i64))) (hn:l.length<=3) :
  Calls Tryz.prog 71 #[.agg #[.slice A1 g.sorts.length c1,.slice A2 g.funs.length c2,.slice A3 g.macros.length c3],.int .i64 f,.slice A l.length c] w (AppPost g f l w):=by
 have HP:=kp (fun a b w' h hb=>appPost (g:=g) (op:=f) (l:=l) (w:=w) (w':=w') (a:=a) (b:=b) h hb);have HL:=kp hl;have HS:=kp h
 have HA:=kp (show appProg g f l=if f < 0\/(g.funs.length:Int)<=f then((0,2):Int × Int) else match g.funs[f.toNat]? with
  | none=>(0,2)
  | some x=>if(l.length:Int)≠x.len then(0,2) else if argsB x l=true then(x.res,0) else(0,33) from rfl)
 have SB:=kp (Bk.new w (.cells #[.slice A1 g.sorts.length c1,.slice A2 g.funs.length c2,.slice A3 g.macros.length c3] 26));have B1:=kp ((brq w).alloc nlq (.cells #[.slice A1 g.sorts.length c1,.slice A2 g.funs.length c2,.slice A3 g.macros.length c3] 26));have HC:=kp (fun W (hW:Below w.heap.size w W)=>by have:=check_any (h.on hW) (by omega) (by omega) (by omega);rw [hg] at this;exact this);have HZ:=kp B1.out.size;have HL1:=kp (HL.out.on B1.out);have HS1:=kp (HS.out.on B1.out);clear h hl hg HL HS;generalize AppPost g f l w=PP at *;generalize appProg g f l=res at *
 go_enter Tryz.func71,Tryz.ntmps71
 go_upto_region 1 with fail
 generalize w.heap.size=sb at *;generalize w.alloc (.cells #[.slice A1 g.sorts.length c1,.slice A2 g.funs.length c2,.slice A3 g.macros.length c3] 26)=w1 at *;have HC1:=kp (fun W (hW:Below w1.heap.size w1 W)=>HC.out W (B1.out.trans (hW.mono HZ.out)));obtain ⟨r0,r1,r2,rf⟩:=Bk.c3 SB.out;go_wp2_with fail
 refine(HC1.out _ (brq w1)).mono ?_;rintro e w2 ⟨rfl,hb⟩;have B2:=kp hb;have B3:=kp (B1.out.trans (B2.out.mono HZ.out));have SB2:=kp (Bk.on SB.out B2.out);have HL2:=kp (HL1.out.on B2.out);clear hb r0 r1 r2 rf HC1;obtain ⟨r0,r1,r2,rf⟩:=Bk.c3 SB2.out
 by_cases h0:f < 0
 ·have HE:=kp (show res=(0,2) by rw [HA.out,if_pos (.inl h0)]);go_wp2_with fail
  exact HP.out _ _ _ HE.out B3.out
 by_cases h1:(g.funs.length:Int)<=f
 ·have HE:=kp (show res=(0,2) by rw [HA.out,if_pos (.inr h1)]);replace h0:=dfq h0;go_wp2_with fail
  exact HP.out _ _ _ HE.out B3.out
 replace HA:=kp (HA.out.trans (if_neg (by omega)));obtain ⟨k,rfl⟩:∃ k:Nat,f=(k:Int):=⟨f.toNat,by omega⟩;have hk:k < g.funs.length:=by omega
 obtain ⟨x,hx⟩:∃ x,g.funs[k]?=some x:=⟨_,gqe hk⟩;replace HA:=kp (show res=if(l.length:Int)≠x.len then(0,2) else if argsB x l=true then(x.res,0) else(0,33) by rw [HA.out,Int.toNat_natCast,hx]);obtain ⟨fb,fo,hA2,hfa,hfi⟩:=fun_get (HS1.out.on B2.out).funs hx;subst hA2;have HF:=kp hfa;clear hx hfa;replace h0:=dfq h0;replace h1:=dfq h1;have hk2:(k:Int) < (g.funs.length:Int):=by omega
 obtain ⟨_,_,q1,_,_,_,q5⟩:=HF.out
 by_cases hn2:(l.length:Int)=x.len
 ·have hn3:((l.length:Int) != x.len)=false:=by simp [hn2]
  replace HA:=kp (HA.out.trans (if_neg (by simp [hn2])));clear hn2;go_wp2_with fail
  go_loop [37] (fun v=>∃ j:Nat,j<=l.length/\v=.int .i64 j/\∀ i,i < j->l.getD i 0=Fun4.arg x i) (fun v=>l.length - (intOf v).toNat)
  case atStart=>exact⟨0,Nat.zero_le _,rfl,fun j hj=>by omega⟩
  case round =>
   obtain ⟨j,hj,rfl,hto⟩:=hrel;have HTo:=kp hto;clear hto
   by_cases hlt:j < l.length
   ·have hlt2:(j:Int) < (l.length:Int):=by omega
    have hj3:j < 3:=by omega
    have hj4:(j:Int) < 3:=by omega
    obtain ⟨b,o,rfl,p0⟩:=cells_get HL2.out hlt;have p1:=FunAt.arg HF.out hj3
    have HTk:=kp (show l.getD j 0=Fun4.arg x j->∀ i,i < j+1->l.getD i 0=Fun4.arg x i from fun he i hi=>by
     by_cases h:i < j
     ·exact HTo.out i h
     ·obtain rfl:i=j:=by omega
      exact he)
    have HNk:=kp (fun hne=>argsB_stop (f:=x) (l:=l) (k:=j) hlt hne);generalize l.getD j 0=y at *;generalize Fun4.arg x j=z at *
    by_cases hy:y=z
    ·have hy':(y != z)=false:=by simp [hy]
     have HQ:=kp (HTk.out hy);clear hy;go_wp2_with fail
     go_round
     case rel=>exact⟨j+1,by omega,by go_num,HQ.out⟩
     case measure=>simp [intOf];omega
    ·have hy':(y != z)=true:=by simp [hy]
     have HE:=kp (show res=(0,33) by rw [HA.out,HNk.out hy];rfl);clear hy;go_wp2_with fail
     exact HP.out _ _ _ HE.out B3.out
   ·obtain rfl:j=l.length:=by omega
    have HE:=kp (show res=(x.res,0) by rw [HA.out,argsB_all HTo.out];rfl);go_wp2_with fail
    exact HP.out _ _ _ HE.out B3.out
 ·have hn3:((l.length:Int) != x.len)=true:=by simp [hn2]
  have HE:=kp (show res=(0,2) by rw [HA.out,if_pos hn2]);go_wp2_with fail
  exact HP.out _ _ _ HE.out B3.out
theorem arity_three {op:Int} {p:Int × Int} (h:arityN op=some p):0<=p.1/\p.2<=3:=by
 unfold arityN at h
 repeat' split at h
 all_goals first | (cases h;exact⟨by decide,by decide⟩) | cases h
theorem stands_len {n:Node} {a:Int} (h:standsN n a=true):0<=n.len/\n.len<=3:=by
 unfold standsN at h
 cases ho:arityN n.op with
 | none=>rw [ho] at h;cases h
 | some p =>
  rw [ho] at h;simp only [Bool.and_eq_true,decide_eq_true_eq] at h;have:=arity_three ho;have:=h.1.1.1.1.1.1.1
  omega
theorem stands_arg {n:Node} {a:Int} (h:standsN n a=true) {i:Nat} (hi:(i:Int) < n.len):0<=n.arg i/\n.arg i < a:=by
 have hl:=stands_len h;unfold standsN at h
 cases ho:arityN n.op with
 | none=>rw [ho] at h;cases h
 | some p =>
  rw [ho] at h;simp only [Bool.and_eq_true] at h;have h0:=h.1.1.1.1.1.2;have h1:=h.1.1.1.1.2;have h2:=h.1.1.1.2;have hc:i=0\/i=1\/i=2:=by omega
  rcases hc with rfl | rfl | rfl
  ·unfold argOkB at h0;rw [if_pos hi] at h0;exact of_decide_eq_true h0
  ·unfold argOkB at h1;rw [if_pos hi] at h1;exact of_decide_eq_true h1
  ·unfold argOkB at h2;rw [if_pos hi] at h2;exact of_decide_eq_true h2
theorem NodeAt.arg' {w:World} {b o:Nat} {n:Node} (h:NodeAt w b o n) {i:Nat} (hi:i < 3):w.cell? ⟨b,o+2+i,none⟩=some (.int .i64 (n.arg i)):=by
 obtain ⟨hl,h0,h1,h2,h3,h4,h5⟩:=h;have hc:i=0\/i=1\/i=2:=by omega
 rcases hc with rfl | rfl | rfl
 ·exact h2
 ·exact h3
 ·exact h4
def sortsTo (t:List Node) (n:Node) (k:Nat):List Int:=(List.range k).map fun i=>(t.getD (n.arg i).toNat nodeTrue).sort
theorem sortsTo_len (t:List Node) (n:Node) (k:Nat):(sortsTo t n k).length=k:=by unfold sortsTo;simp
theorem sortsTo_succ (t:List Node) (n:Node) (k:Nat):sortsTo t n (k+1)=sortsTo t n k ++ [(t.getD (n.arg k).toNat nodeTrue).sort]:=by unfold sortsTo;rw [List.range_succ,List.map_append];rfl
def sortProg (g:Sig) (t:List Node) (n:Node):Int × Int:=if n.op=13 then appProg g n.fn (sortsTo t n n.len.toNat) else opProg n.op (sortsTo t n n.len.toNat)
def SortPost (g:Sig) (t:List Node) (n:Node) (w:World) (e:Ending) (w':World):Prop:=e=.returned (.tuple #[.int .i64 (sortProg g t n).1,.bool (decide ((sortProg g t n).2=0))])/\Below w.heap.size w w'
theorem run_make3 (W:World):(Instr.makeSlice 45 (.int .i64 0) (.int .i64 3)).run Tryz.prog W=.ok (.slice (some ⟨W.heap.size,0,none⟩) 0 3) (W.alloc (.cells #[.int .i64 0,.int .i64 0,.int .i64 0] 3)):=by kernel_rfl
theorem owns_made (w:World) (vs:Array Value) (e:TypeId) (n:Nat) (hn:vs.size=n) (hm:n<=maxLen):(w.alloc (.cells vs e)).ownsRow w.heap.size e 1 (.slice (some ⟨w.heap.size,0,none⟩) 0 n) 0 [] :=
 ⟨by simp,.inr ⟨w.heap.size,n,vs,rfl,nlq,by show(w.heap.push _)[w.heap.size]?=_;exact Array.getElem?_push_size,Nat.zero_le _,hm,by rw [hn,Nat.mul_one],by simp⟩⟩
theorem tysort_any {w:World} {A1 A2 A3:Option Addr} {c1 c2 c3:Nat} {g:Sig} (h:SigAt w A1 c1 A2 c2 A3 c3 g) (hg:checkE g=0) (hl1:g.sorts.length<=1000000) (hl2:g.funs.length<=1000000) (hl3:g.macros.length<=1000000) {A:Option Addr} {t:List Node} (c:Nat) (ht:Lies 8 NodeR w A t) {n:Node} (hi:NodeI n) {a:Int} (hs:standsN n a=true) (ha:a<=t.length) :
  Calls Tryz.prog 37 #[.agg #[.slice A1 g.sorts.length c1,.slice A2 g.funs.length c2,.slice A3 g.macros.length c3],.agg #[.slice A t.length c],nodeV n] w (SortPost g t n w):=by
 obtain ⟨i0,hi0,z0,z1,z2⟩:=info_parts info_int;have I0:=kp hi0;have I1:=kp z0;have I2:=kp z1;have I3:=kp z2;clear hi0 z0 z1 z2;obtain ⟨hlen0,hlen3⟩:=stands_len hs
 have HP:=kp (show ∀ (x y:Int) (b:Bool) w',sortProg g t n=(x,y)->decide (y=0)=b->Below w.heap.size w w'->SortPost g t n w (.returned (.tuple #[.int .i64 x,.bool b])) w' from fun x y b w' h1 h2 h3=>by
  unfold SortPost;rw [h1];exact⟨by rw [← h2],h3⟩)
 have HArg:=kp (fun(i:Nat) (h:(i:Int) < n.len)=>stands_arg hs h);have HT:=kp ht;have HS:=kp h;have HI:=kp hi;have HA:=kp (show sortProg g t n=if n.op=13 then appProg g n.fn (sortsTo t n n.len.toNat) else opProg n.op (sortsTo t n n.len.toNat) from rfl);have HApp:=kp (fun W (hW:Below w.heap.size w W) A l c hl hn=>tyapp_any (h.on hW) hg hl1 hl2 hl3 (A:=A) (l:=l) c n.fn hi.fn hl hn);have HOp:=kp (fun W A l c hl hn hc hcm=>tyop_any (w:=W) (A:=A) (l:=l) (c:=c) n.op hi.op hl hn hc hcm);clear hs h hg ht hi;obtain ⟨m,hm⟩:∃ m:Nat,n.len=(m:Int):=⟨n.len.toNat,by omega⟩;rw [hm] at HA HArg hlen0 hlen3;rw [Int.toNat_natCast] at HA;have hm3:m<=3:=by omega
 have HMk:=run_make3;unfold nodeV;rw [hm];generalize SortPost g t n w=PP at *;generalize sortProg g t n=res at *;have S1:=kp (Bk.new w (.cells #[.slice A1 g.sorts.length c1,.slice A2 g.funs.length c2,.slice A3 g.macros.length c3] 26));have S2:=kp (Bk.keep (Bk.keep S1.out (.cells #[.slice A t.length c] 29)) (.cells #[.int .i8 n.op,.int .i8 (m:Int),.int .i64 n.a0,.int .i64 n.a1,.int .i64 n.a2,.int .i64 n.sort,.int .i64 n.fn,.int .i64 n.n] 49));have T1:=kp (Bk.new (w.alloc (.cells #[.slice A1 g.sorts.length c1,.slice A2 g.funs.length c2,.slice A3 g.macros.length c3] 26)) (.cells #[.slice A t.length c] 29));have T2:=kp (Bk.keep T1.out (.cells #[.int .i8 n.op,.int .i8 (m:Int),.int .i64 n.a0,.int .i64 n.a1,.int .i64 n.a2,.int .i64 n.sort,.int .i64 n.fn,.int .i64 n.n] 49));have N2:=kp (Bk.new ((w.alloc (.cells #[.slice A1 g.sorts.length c1,.slice A2 g.funs.length c2,.slice A3 g.macros.length c3] 26)).alloc (.cells #[.slice A t.length c] 29)) (.cells #[.int .i8 n.op,.int .i8 (m:Int),.int .i64 n.a0,.int .i64 n.a1,.int .i64 n.a2,.int .i64 n.sort,.int .i64 n.fn,.int .i64 n.n] 49));have B2:=kp ((((brq w).alloc nlq (.cells #[.slice A1 g.sorts.length c1,.slice A2 g.funs.length c2,.slice A3 g.macros.length c3] 26)).alloc (by simp) (.cells #[.slice A t.length c] 29)).alloc (by simp;omega) (.cells #[.int .i8 n.op,.int .i8 (m:Int),.int .i64 n.a0,.int .i64 n.a1,.int .i64 n.a2,.int .i64 n.sort,.int .i64 n.fn,.int .i64 n.n] 49))
 rw [show(w.alloc (.cells #[.slice A1 g.sorts.length c1,.slice A2 g.funs.length c2,.slice A3 g.macros.length c3] 26)).heap.size=w.heap.size+1 by simp] at T2;rw [show((w.alloc (.cells #[.slice A1 g.sorts.length c1,.slice A2 g.funs.length c2,.slice A3 g.macros.length c3] 26)).alloc (.cells #[.slice A t.length c] 29)).heap.size=w.heap.size+2 by simp] at N2;have Z2:=kp (show(((w.alloc (.cells #[.slice A1 g.sorts.length c1,.slice A2 g.funs.length c2,.slice A3 g.macros.length c3] 26)).alloc (.cells #[.slice A t.length c] 29)).alloc (.cells #[.int .i8 n.op,.int .i8 (m:Int),.int .i64 n.a0,.int .i64 n.a1,.int .i64 n.a2,.int .i64 n.sort,.int .i64 n.fn,.int .i64 n.n] 49)).heap.size=w.heap.size+3 by simp);clear S1 T1
 go_enter Tryz.func37,Tryz.ntmps37
 go_upto_region 1 with fail
 generalize ((w.alloc (.cells #[.slice A1 g.sorts.length c1,.slice A2 g.funs.length c2,.slice A3 g.macros.length c3] 26)).alloc (.cells #[.slice A t.length c] 29)).alloc (.cells #[.int .i8 n.op,.int .i8 (m:Int),.int .i64 n.a0,.int .i64 n.a1,.int .i64 n.a2,.int .i64 n.sort,.int .i64 n.fn,.int .i64 n.n] 49)=w2 at *;go_upto_region 2 with fail
 have S3:=kp (Bk.keep S2.out (.cells #[.int .i64 0,.int .i64 0,.int .i64 0] 3));have T3:=kp (Bk.keep T2.out (.cells #[.int .i64 0,.int .i64 0,.int .i64 0] 3));have N3:=kp (Bk.keep N2.out (.cells #[.int .i64 0,.int .i64 0,.int .i64 0] 3));have B3:=kp (B2.out.alloc (by rw [Z2.out];omega) (.cells #[.int .i64 0,.int .i64 0,.int .i64 0] 3));have O3:=kp (show World.ownsRow (w2.alloc (.cells #[.int .i64 0,.int .i64 0,.int .i64 0] 3)) (w.heap.size+3) 3 1 (.slice (some ⟨w.heap.size+3,0,none⟩) 0 3) 0 [] by have h:=owns_made w2 #[.int .i64 0,.int .i64 0,.int .i64 0] 3 3 rfl (by unfold maxLen;omega);rwa [Z2.out] at h);have Z3:=kp (show w.heap.size+4<=(w2.alloc (.cells #[.int .i64 0,.int .i64 0,.int .i64 0] 3)).heap.size by simp [Z2.out]);try rw [Z2.out]
 clear S2 T2 N2 B2;generalize w2.alloc (.cells #[.int .i64 0,.int .i64 0,.int .i64 0] 3)=w3 at *;clear Z2;obtain ⟨q0,q1,q2,q3,q4,q5,q6,q7,qf⟩:=Bk.c8 N3.out;have hm128:(m:Int) < 128:=by omega
 go_wp2_with fail
 go_loopw [8,19] (fun v' i' wr=>∃ k:Nat,k<=m/\i'=.int .i64 k/\v'=.slice (some ⟨w.heap.size+3,0,none⟩) k 3/\wr.ownsRow (w.heap.size+3) 3 1 (.slice (some ⟨w.heap.size+3,0,none⟩) k 3) k ((sortsTo t n k).map (Value.int .i64))/\Below (w.heap.size+3) w3 wr) (fun _ i' _=>m - (intOf i').toNat)
 case atStart=>exact⟨0,Nat.zero_le _,rfl,rfl,O3.out,Below.refl _ _⟩
 case round =>
  obtain ⟨k,hk,rfl,rfl,ho,hb⟩:=hrel;have HO:=kp ho;have HB:=kp hb;have HBw:=kp (B3.out.trans (hb.mono (by omega)));have NR:=kp (Bk.on' N3.out hb (by omega));have TR:=kp (Bk.on' T3.out hb (by omega));have SR:=kp (Bk.on' S3.out hb (by omega));clear ho hb q0 q1 q2 q3 q4 q5 q6 q7 qf
  by_cases hlt:k < m
  ·have hlt2:(k:Int) < (m:Int):=by omega
   have hk3:k < 3:=by omega
   have p1:=NodeAt.arg' (node_block (n:=⟨n.op,m,n.a0,n.a1,n.a2,n.sort,n.fn,n.n⟩) NR.out) hk3;rw [Nat.zero_add,show Node.arg ⟨n.op,m,n.a0,n.a1,n.a2,n.sort,n.fn,n.n⟩ k=n.arg k from rfl] at p1;have ha1:=HArg.out k hlt2;have HSs:=kp (sortsTo_succ t n k);generalize n.arg k=y at *;obtain ⟨j,rfl⟩:∃ j:Nat,y=(j:Int):=⟨y.toNat,by omega⟩;rw [Int.toNat_natCast] at HSs;have hj:j < t.length:=by omega
   obtain ⟨x,hx⟩:∃ x,t[j]?=some x:=⟨_,gqe hj⟩;rw [List.getD_eq_getElem?_getD,hx,Option.getD_some] at HSs;obtain ⟨b,o,hA,hxa,hxi⟩:=node_get (HT.out.on NodeR.lasts HBw.out) hx;subst hA;have HX:=kp hxa;have OA:=kp (show World.ownsRow (wr.alloc (.cells #[.int .i64 x.sort] 3)) (w.heap.size+3) 3 1 (.slice (some ⟨w.heap.size+3,0,none⟩) k 3) k ((sortsTo t n k).map (Value.int .i64)) from HO.out.alloc _)
   have NC:=kp (show ∀ (q:Nat) u,[Value.int .i64 x.sort][q]?=some u->(wr.alloc (.cells #[.int .i64 x.sort] 3)).cell? (Addr.add ⟨wr.heap.size,0,none⟩ q)=some u from fun q u hu=>by
    rw [Addr.add_lit,Nat.zero_add,World.cell?_alloc_mark];simpa using hu)
   have hj2:(j:Int) < (t.length:Int):=by omega
   obtain ⟨t0,tf⟩:=Bk.c1 TR.out;obtain ⟨_,_,_,_,_,_,q5,_,_⟩:=HX.out;clear hx hxa ha1
   go_wp2_with (at_builtin;refine wpList_append_fits _ rfl (.tmp 23) (.tmp 30) _ rfl (w.heap.size+3) 3 i0 1 Tryz.underlying45 I0.out I2.out (w.heap.size+3) k 3 ((sortsTo t n k).map (Value.int .i64)) rfl OA.out ⟨wr.heap.size,0,none⟩ 1 1 [.int .i64 x.sort] rfl rfl NC.out (by simp [Value.oneCell']) (by omega) ?_)
   intro w5 hown hgr;have HO5:=kp (show w5.ownsRow (w.heap.size+3) 3 1 (.slice (some ⟨w.heap.size+3,0,none⟩) (k+1) 3) (k+1) ((sortsTo t n (k+1)).map (Value.int .i64)) by rw [HSs.out,List.map_append];exact hown);have HB5:=kp ((HB.out.alloc (by have:=Z3.out;have:=HB.out.size;omega) (.cells #[.int .i64 x.sort] 3)).grown hgr (by have:=Z3.out;have:=HB.out.size;simp;omega) (fun j hj=>by cases hj;omega));clear hown hgr t0 tf q5 p1;go_wp2_with fail
   go_roundw
   case rel=>exact⟨k+1,by omega,by go_num,rfl,HO5.out,HB5.out⟩
   case measure=>simp [intOf];omega
  ·obtain rfl:k=m:=by omega
   have HLn:=kp (sortsTo_len t n k);have HCl:=kp (Cells.own HO.out);obtain ⟨q0,q1,q2,q3,q4,q5,q6,q7,qf⟩:=Bk.c8 NR.out;obtain ⟨s0,s1,s2,sf⟩:=Bk.c3 SR.out;generalize sortsTo t n k=l at *
   by_cases ho:n.op=13
   ·have hop:(n.op == 13)=true:=by rw [ho];rfl
    have HAp:=kp (HApp.out wr HBw.out _ l 3 HCl.out (by have:=HLn.out;omega));rw [HLn.out] at HAp;have HE:=kp (HA.out.trans (if_pos ho));unfold AppPost at HAp;generalize n.fn=fn at *;generalize n.op=op at *;clear ho;generalize appProg g fn l=r at *;obtain ⟨r1,r2⟩:=r;go_wp2_with fail
    refine HAp.out.mono ?_;rintro e w6 ⟨rfl,hb6⟩;have B6:=kp (HBw.out.trans (hb6.mono HBw.out.size));clear hb6;go_wp2_with fail
    exact HP.out _ _ _ _ HE.out rfl B6.out
   ·have hop:(n.op == 13)=false:=by rw [beq_eq_false_iff_ne];exact ho
    have HAp:=kp (HOp.out wr _ l 3 HCl.out (by have:=HLn.out;omega) (by have:=HLn.out;omega) (by unfold maxLen;omega));rw [HLn.out] at HAp;have HE:=kp (HA.out.trans (if_neg ho));unfold OpPost at HAp;generalize n.op=op at *;clear ho;generalize opProg op l=r at *;obtain ⟨r1,r2⟩:=r;go_wp2_with fail
    refine HAp.out.mono ?_;rintro e w6 ⟨rfl,hb6⟩;have B6:=kp (HBw.out.trans (hb6.mono HBw.out.size));clear hb6;go_wp2_with fail
    exact HP.out _ _ _ _ HE.out rfl B6.out
end El
namespace El
open Go.RowKit Dt
theorem eld_size:(Tryz.prog.info? 68).map (fun i=>i.size)=some 2:=by kernel_rfl
theorem eld_lies:liesAt Tryz.prog Tryz.prog.depth 70 (4 / Tryz.prog.cellsOf 70) 0 68 1=true:=by kernel_rfl
def B4 (B b:Nat) (x y p:Value) (bs:List Value) (w:World):Prop :=
 B<=b/\∃ v,w.heap[b]?=some (.cells #[p,v,x,y] 70 (0,0))/\w.ownsRow B 5 1 v bs.length bs/\v.ownBlock≠some b
def IsB4 (B b:Nat) (x y:Value) (bs:List Value) (w:World):Prop:=B4 B b x y (.pointer none) bs w\/B4 B b x y (.pointer (some ⟨b,0,none⟩)) bs w
section
variable {B b:Nat} {x y p:Value} {bs:List Value} {w:World}
theorem B4.cell0 (h:B4 B b x y p bs w):w.cell? ⟨b,0,none⟩=some p:=by
 obtain ⟨_,v,hb,_⟩:=h;simp [World.cell?,hb]
theorem B4.shape (h:B4 B b x y p bs w):w.shape? b=some (70,4):=by
 obtain ⟨_,v,hb,_⟩:=h;simp [World.shape?,hb]
theorem B4.lt (h:B4 B b x y p bs w):b < w.heap.size:=by
 obtain ⟨_,v,hb,_⟩:=h;exact lt_of_block hb
theorem B4.used (h:B4 B b x y p bs w) (q:Value):B4 B b x y q bs (w.setCell ⟨b,0,none⟩ q):=by
 obtain ⟨hB,v,hb,hown,hne⟩:=h;refine⟨hB,v,Bk.set_at hb 0 q,?_,hne⟩;exact hown.kept (row:=some b) ⟨rfl,rfl,rfl,by simp [World.setCell],fun k _ hk=>Below.heap_setCell _ _ _ _ (fun e=>hk (by simp [e]))⟩ (Or.inr hne)
theorem B4.frozen0 (h:B4 B b x y p bs w):w.frozen? ⟨b,0,none⟩=false:=by
 obtain ⟨_,v,hb,_⟩:=h;simp [World.frozen?,hb]
theorem B4.put {v v':Value} {bs':List Value} (hB:B<=b) (hb:w.heap[b]?=some (.cells #[p,v,x,y] 70 (0,0))) (hown:w.ownsRow B 5 1 v' bs'.length bs'):B4 B b x y p bs' (w.setCell ⟨b,1,none⟩ v'):=by
 have hne:=Lib.ownBlock_ne hown hb (by decide);exact⟨hB,v',Bk.set_at hb 1 v',hown.kept (row:=some b) ⟨rfl,rfl,rfl,by simp [World.setCell],fun k _ hk=>Below.heap_setCell _ _ _ _ (fun e=>hk (by simp [e]))⟩ (Or.inr hne),hne⟩
end
structure Wr (B b:Nat) (w w':World):Prop where
 below:Below B w w'
 keep:∀ k cs t z,k≠b->w.heap[k]?=some (.cells cs t z)->t≠5->w'.heap[k]?=some (.cells cs t z)
section
variable {B b:Nat} {w w0 w':World}
theorem Wr.refl (B b:Nat) (w:World):Wr B b w w:=⟨Below.refl B w,fun _ _ _ _ _ h _=>h⟩
theorem Wr.trans (h:Wr B b w0 w) (h':Wr B b w w'):Wr B b w0 w':=⟨h.below.trans h'.below,fun k cs t z hk hc ht=>h'.keep k cs t z hk (h.keep k cs t z hk hc ht) ht⟩
theorem Wr.drew (h:Wr B b w0 w):Wr B b w0 w.drew:=⟨h.below.drew,h.keep⟩
theorem Wr.alloc (h:Wr B b w0 w) (hB:B<=w.heap.size) (o:Obj):Wr B b w0 (w.alloc o) :=
 ⟨h.below.alloc hB o,fun k cs t z hk hc ht=>by have h1:=h.keep k cs t z hk hc ht;rw [Lib.alloc_old w _ k (lt_of_block h1)];exact h1⟩
theorem Wr.setCell (h:Wr B b w0 w) (hB:B<=b) (i:Nat) (v:Value):Wr B b w0 (w.setCell ⟨b,i,none⟩ v) :=
 ⟨h.below.setCell (p:=⟨b,i,none⟩) hB v,fun k cs t z hk hc ht=>by rw [Below.heap_setCell _ _ _ _ (fun e=>hk e)];exact h.keep k cs t z hk hc ht⟩
theorem Wr.grown (h:Wr B b w0 w) {v:Value} {n:Nat} {xs:List Value} (ho:w.ownsRow B 5 1 v n xs) (hg:w.grownBy w' v.ownBlock) (hB:B<=w.heap.size):Wr B b w0 w' :=
 ⟨h.below.grown hg hB (fun k hk=>(ho.lt k hk).1),fun k cs t z hk hc ht=>by
  have h1:=h.keep k cs t z hk hc ht;rw [hg.block k (lt_of_block h1) (fun e=>?_)]
  ·exact h1
  ·rcases ho.2 with⟨hv,_⟩ | ⟨g,cap,cur,hv,_,hb,_⟩
   ·rw [hv] at e;cases e
   ·rw [hv] at e;obtain rfl:k=g:=by simpa [Value.ownBlock] using e
    rw [hb] at h1
    cases h1
    exact ht rfl⟩
theorem Wr.size (h:Wr B b w w'):w.heap.size<=w'.heap.size:=h.below.size
end
def EW (B b:Nat) (x y:Value) (l:List UInt8) (w:World):Prop:=IsB4 B b x y (Lib.byteCells l) w
theorem e_copy_used (b:Nat) (w:World) (h0:w.cell? ⟨b,0,none⟩=some (.pointer (some ⟨b,0,none⟩))) :
  Calls Tryz.prog 74 #[.pointer (some ⟨b,0,none⟩)] w fun e w'=>e=.returned (.tuple #[])/\w'=w:=by
 obtain ⟨j,hj,_⟩:=Option.map_eq_some_iff.1 eld_size
 go_enter Tryz.func74,Tryz.ntmps74
 go_wp2_with fail
 rw [Lib.run_neq_ptr_same w _ Tryz.underlying65 hj];go_wp2_with fail
 go_end0
 exact⟨rfl,rfl⟩
theorem e_copy_fresh (b:Nat) (w:World) (h0:w.cell? ⟨b,0,none⟩=some (.pointer none)) (hsh:w.shape? b=some (70,4)) (hfz:w.frozen? ⟨b,0,none⟩=false) :
  Calls Tryz.prog 74 #[.pointer (some ⟨b,0,none⟩)] w fun e w'=>e=.returned (.tuple #[])/\w'=w.setCell ⟨b,0,none⟩ (.pointer (some ⟨b,0,none⟩)):=by
 obtain ⟨j,hj,hjs⟩:=Option.map_eq_some_iff.1 eld_size
 go_enter Tryz.func74,Tryz.ntmps74
 go_wp2_with fail
 rw [Lib.run_to_unsafe w ⟨b,0,none⟩ Tryz.underlying65 Tryz.underlying183 hj (by rw [hjs];decide) hsh (Nat.zero_lt_succ 3)];simp only [Result.andThen];rw [Oper.upon_value];go_wp2_with fail
 rw [run_callFunc_extern Tryz.func117 (by kernel_rfl) (by kernel_rfl) (by kernel_rfl) (e:=Extern.AbiNoEscape.same) (by kernel_rfl)];rw [Lib.run_noEscape];simp only [Result.andThen];rw [Oper.upon_value];go_wp2_with fail
 rw [Lib.run_from_unsafe w ⟨b,0,none⟩ Tryz.underlying183 Tryz.underlying65 hj hsh eld_lies];simp only [Result.andThen];rw [Oper.upon_value];go_wp2_with fail
 go_end0
 exact⟨rfl,rfl⟩
theorem e_copy_any {x y:Value} (B b:Nat) (bs:List Value) (w:World) (h:IsB4 B b x y bs w) :
  Calls Tryz.prog 74 #[.pointer (some ⟨b,0,none⟩)] w fun e w'=>e=.returned (.tuple #[])/\(B4 B b x y (.pointer (some ⟨b,0,none⟩)) bs w'/\Wr B b w w'):=by
 rcases h with h | h
 ·refine(e_copy_fresh b w h.cell0 h.shape h.frozen0).mono ?_;rintro e w' ⟨rfl,rfl⟩;exact⟨rfl,h.used _,(Wr.refl B b w).setCell h.1 0 _⟩
 ·refine(e_copy_used b w h.cell0).mono ?_;rintro e w' ⟨rfl,rfl⟩;exact⟨rfl,h,Wr.refl B b _⟩
theorem e_bcells_append (l m:List UInt8):Lib.byteCells (l ++ m)=Lib.byteCells l ++ Lib.byteCells m:=by unfold Lib.byteCells;rw [List.map_append]
theorem e_blen_any {x y:Value} (B b:Nat) (l:List UInt8) (w:World) (h:EW B b x y l w) :
  Calls Tryz.prog 22 #[.pointer (some ⟨b,0,none⟩)] w fun e w'=>e=.returned (.int .i64 l.length)/\w'=w:=by
 obtain ⟨p,hB,v,hbk,hown,hne⟩:∃ p,B4 B b x y p (Lib.byteCells l) w:=by
  rcases h with h | h
  ·exact⟨_,h⟩
  ·exact⟨_,h⟩
 rw [Lib.byteCells_length] at hown
 obtain ⟨ao,cap,rfl⟩:∃ ao cap,v=.slice ao l.length cap:=by
  rcases hown.2 with⟨hv,h0⟩ | ⟨g,cap,cur,hv,_⟩
  ·exact⟨none,0,by rw [hv,h0]⟩
  ·exact⟨_,_,hv⟩
 have c1:w.cell? ⟨b,1,none⟩=some (.slice ao l.length cap):=by rw [Lib.cell_of_heap hbk];rfl
 clear hbk hown hne hB
 go_enter Tryz.func22,Tryz.ntmps22
 go_wp2_with fail
 go_ret;exact⟨rfl,rfl⟩
theorem e_wbyte_any {x y:Value} (B b:Nat) (l:List UInt8) (c:UInt8) (w:World) (h:EW B b x y l w) (hlen:l.length+1<=140737488355328) (hBw:B<=w.heap.size) :
  Calls Tryz.prog 77 #[.pointer (some ⟨b,0,none⟩),.int .u8 c.toNat] w fun e w'=>e=.returned .nilIface/\EW B b x y (l ++ [c]) w'/\Wr B b w w':=by
 obtain ⟨i0,hi,hz0,hz1,hz2⟩:=info_parts info_u8;have HC:=kp (e_copy_any B b _ w h);have HLl:=kp (Lib.byteCells_length l);clear h;generalize hc:(c.toNat:Int)=ci;have HCi:=kp hc;clear hc
 go_enter Tryz.func77,Tryz.ntmps77
 go_wp2_with fail
 refine HC.out.mono ?_;rintro e w1 ⟨rfl,h1,hb1⟩;obtain ⟨hB,v,hbk,hown,hne⟩:=h1;have c0:w1.cell? ⟨b,0,none⟩=some (.pointer (some ⟨b,0,none⟩)):=by rw [Lib.cell_of_heap hbk];rfl
 have c1:w1.cell? ⟨b,1,none⟩=some v:=by rw [Lib.cell_of_heap hbk];rfl
 have HB1:=kp hb1;have HOw:=kp hown;have HBk:=kp hbk;have HNe:=kp hne;have HB:=kp hB;have HLen:=kp (show(Lib.byteCells l).length+1<=140737488355328 by rw [HLl.out];exact hlen);clear hb1 hown hbk hne hB hlen
 go_wp2_with (at_builtin;refine wpList_append_own _ rfl _ _ 66 rfl B 5 i0 (.int .u8 0) 1 1 Tryz.underlying66 hi hz0 hz1 hz2 rfl (by decide) _ _ _ rfl (HOw.out.alloc _) ⟨w1.heap.size,0,none⟩ 1 1 [.int .u8 ci] rfl rfl ?c1 ?c2 ?c3 ?c4 ?c5 ?_)
 case c1 =>
  intro j u hj
  match j,hj with
  | 0,hj=>simp at hj;subst hj;simp [Addr.add]
 case c2=>intro u hu;simp at hu;subst hu;rfl
 case c3=>have:=HLen.out;unfold maxLen;omega
 case c4=>have:=HLen.out;omega
 case c5=>have:=HB1.out.below.size;simp;omega
 intro v' w2 hown' hgrow _;have hlt:b < w1.heap.size:=(Array.getElem?_eq_some_iff.1 HBk.out).1
 have hb2:w2.heap[b]?=some (.cells #[.pointer (some ⟨b,0,none⟩),v,x,y] 70 (0,0)):=by
  rw [hgrow.block b (by simp;omega) (fun e=>HNe.out e.symm),Lib.alloc_old w1 _ b hlt];exact HBk.out
 have d0:w2.cell? ⟨b,0,none⟩=some (.pointer (some ⟨b,0,none⟩)):=by rw [Lib.cell_of_heap hb2];rfl
 have d1:w2.cell? ⟨b,1,none⟩=some v:=by rw [Lib.cell_of_heap hb2];rfl
 have f1:w2.frozen? ⟨b,1,none⟩=false:=Lib.frozen_of_heap hb2 1
 obtain ⟨g,cap,rfl⟩:∃ g cap,v'=.slice (some ⟨g,0,none⟩) ((Lib.byteCells l).length+1) cap:=by
  rcases hown'.2 with⟨_,h0⟩ | ⟨g,cap,cur,hv,_⟩
  ·omega
  ·exact⟨g,cap,hv⟩
 have HF:=kp (show EW B b x y (l ++ [c]) (w2.setCell ⟨b,1,none⟩ (.slice (some ⟨g,0,none⟩) ((Lib.byteCells l).length+1) cap))/\Wr B b w (w2.setCell ⟨b,1,none⟩ (.slice (some ⟨g,0,none⟩) ((Lib.byteCells l).length+1) cap)) from
  ⟨.inr (by
   rw [e_bcells_append,show Lib.byteCells [c]=[.int .u8 ci] by rw [← HCi.out];rfl];exact B4.put HB.out hb2 (bs':=Lib.byteCells l ++ [.int .u8 ci]) (by simpa using hown')),
   ((HB1.out.alloc (by have:=HB1.out.below.size;omega) _).grown (HOw.out.alloc _) hgrow (by have:=HB1.out.below.size;simp;omega)).setCell HB.out 1 _⟩)
 clear hown' hgrow hb2;go_wp2_with fail
 go_ret;exact⟨rfl,HF.out⟩
theorem e_wstr_any {x y:Value} (B b:Nat) (l:List UInt8) (s:ByteArray) (w:World) (h:EW B b x y l w) (hlen:l.length+s.size<=140737488355328) (hBw:B<=w.heap.size) :
  Calls Tryz.prog 41 #[.pointer (some ⟨b,0,none⟩),.string s] w fun e w'=>e=.returned (.tuple #[.int .i64 s.size,.nilIface])/\EW B b x y (l ++ Lx.bs s) w'/\Wr B b w w':=by
 obtain ⟨i0,hi,hz0,hz1,hz2⟩:=info_parts info_u8;have HC:=kp (e_copy_any B b _ w h);have HLl:=kp (Lib.byteCells_length l);clear h
 go_enter Tryz.func41,Tryz.ntmps41
 go_wp2_with fail
 refine HC.out.mono ?_;rintro e w1 ⟨rfl,h1,hb1⟩;obtain ⟨hB,v,hbk,hown,hne⟩:=h1;have c0:w1.cell? ⟨b,0,none⟩=some (.pointer (some ⟨b,0,none⟩)):=by rw [Lib.cell_of_heap hbk];rfl
 have c1:w1.cell? ⟨b,1,none⟩=some v:=by rw [Lib.cell_of_heap hbk];rfl
 have HB1:=kp hb1;have HOw:=kp hown;have HBk:=kp hbk;have HNe:=kp hne;have HB:=kp hB;have HLen:=kp (show(Lib.byteCells l).length+s.size<=140737488355328 by rw [HLl.out];exact hlen);clear hb1 hown hbk hne hB hlen
 go_wp2_with (at_builtin;refine Lib.wpList_append_own_string _ rfl _ _ 66 9 rfl B 5 i0 Tryz.underlying66 Tryz.underlying9 hi hz0 hz1 hz2 _ _ _ rfl HOw.out s rfl ?c3 ?c4 ?c5 ?_)
 case c3=>have:=HLen.out;unfold maxLen;omega
 case c4=>have:=HLen.out;omega
 case c5=>have:=HB1.out.below.size;omega
 intro v' w2 hown' hgrow _;have hlt:b < w1.heap.size:=(Array.getElem?_eq_some_iff.1 HBk.out).1
 have hb2:w2.heap[b]?=some (.cells #[.pointer (some ⟨b,0,none⟩),v,x,y] 70 (0,0)):=by
  rw [hgrow.block b hlt (fun e=>HNe.out e.symm)];exact HBk.out
 have d0:w2.cell? ⟨b,0,none⟩=some (.pointer (some ⟨b,0,none⟩)):=by rw [Lib.cell_of_heap hb2];rfl
 have d1:w2.cell? ⟨b,1,none⟩=some v:=by rw [Lib.cell_of_heap hb2];rfl
 have f1:w2.frozen? ⟨b,1,none⟩=false:=Lib.frozen_of_heap hb2 1
 obtain ⟨ao,n',cap,rfl⟩:∃ ao n' cap,v'=.slice ao n' cap:=by
  rcases hown'.2 with⟨hv,_⟩ | ⟨g,cap,cur,hv,_⟩
  ·exact⟨_,_,_,hv⟩
  ·exact⟨_,_,_,hv⟩
 have HF:=kp (show EW B b x y (l ++ Lx.bs s) (w2.setCell ⟨b,1,none⟩ (.slice ao n' cap))/\Wr B b w (w2.setCell ⟨b,1,none⟩ (.slice ao n' cap)) from
  ⟨.inr (by
   rw [e_bcells_append,show Lib.byteCells (Lx.bs s)=Lib.strCells s from rfl];exact B4.put HB.out hb2 (bs':=Lib.byteCells l ++ Lib.strCells s) (by simpa [Lib.strCells_length] using hown')),
   (HB1.out.grown HOw.out hgrow (by have:=HB1.out.below.size;omega)).setCell HB.out 1 _⟩)
 clear hown' hgrow hb2;go_wp2_with fail
 go_ret2;exact⟨rfl,HF.out⟩
theorem e_u8_cells:Tryz.prog.cellsOf 5=1:=by kernel_rfl
theorem e_bstring_any {x y:Value} (B b:Nat) (l:List UInt8) (w:World) (h:EW B b x y l w) (h0:l≠[]) :
  Calls Tryz.prog 23 #[.pointer (some ⟨b,0,none⟩)] w fun e w'=>e=.returned (.string ⟨l.toArray⟩)/\Below B w w':=by
 obtain ⟨p,hB,v,hbk,hown,hne⟩:∃ p,B4 B b x y p (Lib.byteCells l) w:=by
  rcases h with h | h
  ·exact⟨_,h⟩
  ·exact⟨_,h⟩
 have hl0:l.length≠0:=by simpa using h0
 rw [Lib.byteCells_length] at hown
 obtain ⟨g,cap,cur,rfl,hbg,hg,hnc,hcm,hcs,htake⟩:∃ g cap cur,v=.slice (some ⟨g,0,none⟩) l.length cap/\B<=g/\w.heap[g]?=some (.cells cur 5 (0,0))/\l.length<=cap/\cap<=maxLen/\cur.size=cap * 1/\cur.toList.take (l.length * 1)=Lib.byteCells l:=by
  rcases hown.2 with⟨_,hz⟩ | ⟨g,cap,cur,hv,r⟩
  ·exact absurd hz hl0
  ·exact⟨g,cap,cur,hv,r⟩
 have c1:w.drew.cell? ⟨b,1,none⟩=some (.slice (some ⟨g,0,none⟩) l.length cap):=by
  have:w.drew.heap[b]?=some (.cells #[p,.slice (some ⟨g,0,none⟩) l.length cap,x,y] 70 (0,0)):=hbk;rw [Lib.cell_of_heap this];rfl
 have hSD:(Builtin.unsafeSliceData_ #[66] 109 #[.slice (some ⟨g,0,none⟩) l.length cap]).run Tryz.prog w.drew=.ok (.pointer (some ⟨g,0,none⟩)) w.drew :=
  Lib.run_unsafeSliceData_row _ _ _ _ _ _ (by omega)
 have hUS:(Builtin.unsafeString_ #[109,3] 9 #[.pointer (some ⟨g,0,none⟩),.int .i64 l.length]).run Tryz.prog w.drew=.ok (.string ⟨l.toArray⟩) (w.drew.freeze ⟨g,0,none⟩ l.length):=by
  refine Lib.run_unsafeString_row w.drew 109 3 9 5 Tryz.underlying109 e_u8_cells g cur.size (by have hg':w.drew.heap[g]?=some (.cells cur 5 (0,0)):=hg;simp [World.shape?,hg']) l h0 (by omega) (by unfold maxLen at hcm;omega) ?_;intro j x hx;have:=hown.cells (g:=g) rfl j (.int .u8 x.toNat) (by simp [Lib.byteCells,hx]);exact this
 have HBG:=kp hbg;clear hbk hown hne hg hnc hcm hcs htake hl0 h hbg hB
 go_enter Tryz.func23,Tryz.ntmps23
 go_wp2_with fail
 go_region_with fail
 all_goals
  go_wp2_with fail
  go_ret;exact⟨rfl,Lib.below_freeze (Below.drew (Below.refl B w)) (p:=⟨g,0,none⟩) HBG.out _⟩
end El
namespace El
open Go.RowKit Dt
theorem EW.drew {B b:Nat} {x y:Value} {l:List UInt8} {w:World} (h:EW B b x y l w):EW B b x y l w.drew:=by
 rcases h with h | h
 ·exact .inl h
 ·exact .inr h
theorem EW.lt {B b:Nat} {x y:Value} {l:List UInt8} {w:World} (h:EW B b x y l w):b < w.heap.size/\B<=b:=by
 rcases h with h | h
 ·exact⟨h.lt,h.1⟩
 ·exact⟨h.lt,h.1⟩
theorem EW.cells {B b:Nat} {x y:Value} {l:List UInt8} {w:World} (h:EW B b x y l w):w.cell? ⟨b,2,none⟩=some x/\w.cell? ⟨b,3,none⟩=some y:=by
 have key:∀ p bs,B4 B b x y p bs w->w.cell? ⟨b,2,none⟩=some x/\w.cell? ⟨b,3,none⟩=some y:=fun p bs h=>by
  obtain ⟨_,v,hb,_⟩:=h
  constructor
  ·rw [Lib.cell_of_heap hb];rfl
  ·rw [Lib.cell_of_heap hb];rfl
 rcases h with h | h
 ·exact key _ _ h
 ·exact key _ _ h
theorem EW.below {B b:Nat} {x y:Value} {l:List UInt8} {w w':World} (h:EW B b x y l w) (hb:Below w.heap.size w w'):EW B b x y l w':=by
 have key:∀ p,B4 B b x y p (Lib.byteCells l) w->B4 B b x y p (Lib.byteCells l) w':=fun p ⟨hB,v,hbk,hown,hne⟩=>by
  refine⟨hB,v,(hb.block b (lt_of_block hbk)).trans hbk,⟨hown.1,?_⟩,hne⟩;rcases hown.2 with h1 | ⟨g,cap,cur,h1,h2,h3,h4⟩
  ·exact .inl h1
  ·exact .inr ⟨g,cap,cur,h1,h2,(hb.block g (lt_of_block h3)).trans h3,h4⟩
 rcases h with h | h
 ·exact .inl (key _ h)
 ·exact .inr (key _ h)
theorem Wr.of {B b:Nat} {w0 w w':World} (h:Wr B b w0 w) (hb:Below w.heap.size w w') (hB:B<=w.heap.size):Wr B b w0 w' :=
 h.trans ⟨hb.mono hB,fun k _ _ _ _ hc _=>(hb.block k (lt_of_block hc)).trans hc⟩
def PutE (B b:Nat) (x y:Value) (l:List UInt8) (w:World) (e:Ending) (w':World):Prop:=e=.returned (.tuple #[])/\EW B b x y l w'/\Wr B b w w'
def Writes (B b:Nat) (x y:Value) (v:Value) (T:List UInt8) (w:World):Prop :=
 ∃ k c1 c2,(k=40\/k=44\/k=75)/\v=.func (.func k) #[] #[c1,c2]/\∀ l w',Wr B b w w'->EW B b x y l w'->l.length+T.length<=140737488355328->Calls Tryz.prog k #[c1,c2] w' (PutE B b x y (l ++ T) w')
theorem Writes.on {B b:Nat} {x y v:Value} {T:List UInt8} {w w':World} (h:Writes B b x y v T w) (hw:Wr B b w w'):Writes B b x y v T w':=by
 obtain ⟨k,c1,c2,hk,hv,hc⟩:=h;exact⟨k,c1,c2,hk,hv,fun l u hu=>hc l u (hw.trans hu)⟩
def gaps (Ts:List (List UInt8)):List UInt8:=Ts.flatMap fun T=>32 :: T
theorem gaps_take (Ts:List (List UInt8)) {k:Nat} {T:List UInt8} (h:Ts[k]?=some T):gaps (Ts.take (k+1))=gaps (Ts.take k) ++ 32 :: T:=by
 unfold gaps;rw [List.take_add_one,h];simp
theorem gaps_len (Ts:List (List UInt8)) (k:Nat):(gaps (Ts.take k)).length<=(gaps Ts).length:=by
 have h:gaps Ts=gaps (Ts.take k) ++ gaps (Ts.drop k):=by
  unfold gaps;rw [← List.flatMap_append,List.take_append_drop]
 rw [h,List.length_append]
 omega
theorem rests_gaps:∀ l:List Sexp,Sexp.restsL l=gaps (l.map Sexp.textL)
 | []=>by unfold Sexp.restsL gaps;rfl
 | a :: l=>by
  rw [Sexp.restsL,rests_gaps l];unfold gaps;simp
def PartsR (b:Nat) (w:World) (A:Option Addr) (vs:List Value):Prop:=vs=[]\/∃ ba cs z,A=some ⟨ba,0,none⟩/\ba≠b/\w.heap[ba]?=some (.cells cs 1 z)/\cs.toList.take vs.length=vs
theorem PartsR.get {B b:Nat} {w w':World} {A:Option Addr} {vs:List Value} (h:PartsR b w A vs) (hw:Wr B b w w') {k:Nat} (hk:k < vs.length):∃ ba,A=some ⟨ba,0,none⟩/\w'.cell? ⟨ba,k,none⟩=some vs[k]:=by
 rcases h with h | ⟨ba,cs,z,hA,hn,hb,ht⟩
 ·rw [h] at hk;simp at hk
 ·refine⟨ba,hA,?_⟩;have h1:=hw.keep ba cs _ z hn hb (by decide)
  have h2:cs.toList[k]?=some vs[k]:=by
   have h3:(cs.toList.take vs.length)[k]?=some vs[k]:=by rw [ht];exact gqe hk
   rw [List.getElem?_take] at h3
   simpa [hk] using h3
  simp only [World.cell?,h1]
  simpa using h2
theorem PartsR.lt {b:Nat} {w:World} {A:Option Addr} {vs:List Value} (h:PartsR b w A vs):vs=[]\/∃ ba,A=some ⟨ba,0,none⟩/\ba < w.heap.size:=by
 rcases h with h | ⟨ba,cs,z,hA,hn,hb,ht⟩
 ·exact .inl h
 ·exact .inr ⟨ba,hA,lt_of_block hb⟩
theorem wrlist_any {B b:Nat} {x y:Value} {w:World} {l:List UInt8} {A:Option Addr} {c:Nat} {vs:List Value} {Ts:List (List UInt8)} (name:ByteArray) (hw:EW B b x y l w) (hr:PartsR b w A vs) (hn:Ts.length=vs.length) (hvs:vs.length<=1000)
  (hp:∀ k (hk:k < vs.length) (hk':k < Ts.length),Writes B b x y vs[k] Ts[k] w) (hlen:l.length+(name.size+(gaps Ts).length+2)<=140737488355328) :
  Calls Tryz.prog 43 #[.pointer (some ⟨b,0,none⟩),.string name,.slice A vs.length c] w (PutE B b x y (l ++ 40 :: (Lx.bs name ++ gaps Ts ++ [41])) w):=by
 have HLen:=kp hlen;have HN:=kp hn;have HR:=kp hr;have HP:=kp hp;have HWB:=kp hw;have HB1:=kp (show B<=w.heap.size by have:=hw.lt;omega);have HW1:=kp (fun u m (h:EW B b x y m u) (hm:m.length+1<=140737488355328) ch=>e_wbyte_any (x:=x) (y:=y) B b m ch u h hm (by have:=h.lt;omega));have e40:Lx.bs ({ data:=#[40] } ++ name)=40 :: Lx.bs name:=by rw [Lx.bs_append];rfl
 have HS:=kp (fun u (h:EW B b x y l u)=>e_wstr_any (x:=x) (y:=y) B b l ({ data:=#[40] } ++ name) u h (by rw [← Lx.bs_length,e40,List.length_cons,Lx.bs_length];omega) (by have:=h.lt;omega));rw [e40] at HS;have HTx:=kp (show l ++ 40 :: (Lx.bs name ++ gaps Ts ++ [41])=(l ++ 40 :: Lx.bs name ++ gaps Ts) ++ [41] by simp);rw [HTx.out];have hsz:¬ 9223372036854775807 < 1+name.size:=by omega
 have HL0:=kp (show(l ++ 40 :: Lx.bs name).length+(gaps Ts).length+1<=140737488355328 by rw [List.length_append,List.length_cons,Lx.bs_length];omega);generalize l ++ 40 :: Lx.bs name=l0 at *;clear hw hr hn hp hlen HTx e40
 go_enter Tryz.func43,Tryz.ntmps43
 go_wp2_with fail
 refine(HS.out _ HWB.out).mono ?_;rintro e w1 ⟨rfl,h1,hb1⟩;have W1:=kp h1;have B1:=kp hb1;clear h1 hb1;go_wp2_with fail
 go_loopw [16] (fun i' wr=>∃ k:Nat,k<=vs.length/\i'=.int .i64 k/\EW B b x y (l0 ++ gaps (Ts.take k)) wr/\Wr B b w wr) (fun i' _=>vs.length - (intOf i').toNat)
 case atStart=>exact⟨0,Nat.zero_le _,rfl,by simpa [gaps] using W1.out,B1.out⟩
 case round =>
  obtain ⟨k,hk,rfl,hwb,hbr⟩:=hrel;have HWr:=kp hwb;have HBr:=kp hbr;clear hwb
  by_cases hlt:k < vs.length
  ·have hlt2:(k:Int) < (vs.length:Int):=by omega
   have hkT:k < Ts.length:=by rw [HN.out];exact hlt
   obtain ⟨ba,hA,ck⟩:=HR.out.get hbr hlt;subst hA;have hWk:=HP.out k hlt hkT;have hT:=gqe hkT;generalize vs[k]=v at ck hWk;generalize Ts[k]=T at hT hWk;have HT:=kp (gaps_take Ts hT)
   have HTl:=kp (show(gaps (Ts.take k)).length+1+T.length<=(gaps Ts).length by
    have h:=gaps_len Ts (k+1);rw [HT.out] at h;simp only [List.length_append,List.length_cons] at h
    omega)
   obtain ⟨fk,c1,c2,hfk,rfl,hWc⟩:=hWk;rcases hfk with rfl | rfl | rfl
   all_goals
    have HWc:=kp hWc;clear hWc hT hbr;go_wp2_with fail
    refine(HW1.out wr _ HWr.out (by have:=HL0.out;have:=HTl.out;rw [List.length_append];omega) 32).mono ?_;rintro e w2 ⟨rfl,h2,hb2⟩;have W2:=kp h2;have B2:=kp (HBr.out.trans hb2);have HQ:=kp (HWc.out _ w2 B2.out W2.out (by have:=HL0.out;have:=HTl.out;rw [List.length_append,List.length_append,List.length_cons,List.length_nil];omega));clear h2 hb2 ck;go_wp2_with fail
    refine HQ.out.mono ?_;rintro e w3 ⟨rfl,h3,hb3⟩;have W3:=kp (show EW B b x y (l0 ++ gaps (Ts.take (k+1))) w3 by rw [HT.out];simpa using h3);have B3:=kp (B2.out.trans hb3);clear h3 hb3;go_wp2_with fail
    go_roundw
    case rel=>exact⟨k+1,by omega,by go_num,W3.out,B3.out⟩
    case measure=>simp [intOf];omega
  ·obtain rfl:k=vs.length:=by omega
   have HW2:=kp (show EW B b x y (l0 ++ gaps Ts) wr by have:=HWr.out;rwa [← HN.out,List.take_length] at this);have HQ:=kp (HW1.out wr _ HW2.out (by have:=HL0.out;rw [List.length_append];omega) 41);clear hbr;go_wp2_with fail
   refine HQ.out.mono ?_;rintro e w3 ⟨rfl,h3,hb3⟩;have HE:=kp (And.intro h3 (HBr.out.trans hb3));clear h3 hb3;go_wp2_with fail
   go_end0
   exact⟨rfl,HE.out⟩
end El
end Go.Proofs.YtpmdcckapddchaaGreatDoor
