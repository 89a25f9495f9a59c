import Derived.Test.YtpmdcckapddchaaGreatDoorShort
import Derived.Test.YtpmdcckapddchaaGreatDoorMs
/- merged by wip/merge.py from: RTmStands -/
set_option maxRecDepth 100000
set_option maxHeartbeats 51200000
namespace Go.Proofs.YtpmdcckapddchaaGreatDoor
namespace El
open Go.RowKit Dt Sg
def rarN (op:Int):Int:=if op=0\/op=10 then 0 else if op=1\/op=11 then 1 else if op=2\/op=3\/op=4\/op=5\/op=6\/op=8\/op=9\/op=12 then 2 else if op=7 then 3 else if op=13 then -1 else -2
theorem rarity_any (op:Int) (w:World) :
  Calls Tryz.prog 129 #[.int .i8 op] w fun e w'=>e=.returned (.int .i64 (rarN op))/\w=w':=by
 go_enter Tryz.func129,Tryz.ntmps129
 go_wp2_with fail
 all_goals
  go_ret;exact⟨ret_int (by unfold rarN;simp_all),rfl⟩
theorem rmay01_any (n:Int) (w:World) :
  Calls Tryz.prog 86 #[.int .i64 n] w fun e w'=>e=.returned (.bool (mayB n))/\w=w':=by
 go_enter Tryz.func86,Tryz.ntmps86
 go_wp2_with fail
 all_goals
  go_ret;exact⟨ret_bool (by rw [Bool.eq_iff_iff];unfold mayB;simp;omega),rfl⟩
def rheadB (n:Node):Bool:=match arityN n.op with
 | none=>false
 | some (lo,hi)=>decide (lo<=n.len) && decide (n.len<=hi)
theorem arity_rar (op:Int):(rarN op=-2/\arityN op=none)\/(rarN op=-1/\arityN op=some (0,3))\/((rarN op=0\/rarN op=1\/rarN op=2\/rarN op=3)/\arityN op=some (rarN op,rarN op)):=by
 unfold arityN rarN
 by_cases h13:op=13
 ·subst h13;right;left;decide
 rw [if_neg h13,if_neg h13]
 by_cases h0:op=0\/op=10
 ·rw [if_pos h0,if_pos h0];right;right;exact⟨.inl rfl,rfl⟩
 rw [if_neg h0,if_neg h0]
 by_cases h1:op=1\/op=11
 ·rw [if_pos h1,if_pos h1];right;right;exact⟨.inr (.inl rfl),rfl⟩
 rw [if_neg h1,if_neg h1]
 by_cases h2:op=2\/op=3\/op=4\/op=5\/op=6\/op=8\/op=9\/op=12
 ·rw [if_pos h2,if_pos h2];right;right;exact⟨.inr (.inr (.inl rfl)),rfl⟩
 rw [if_neg h2,if_neg h2]
 by_cases h3:op=7
 ·rw [if_pos h3,if_pos h3];right;right;exact⟨.inr (.inr (.inr rfl)),rfl⟩
 rw [if_neg h3,if_neg h3]
 left;exact⟨rfl,rfl⟩
theorem rhead_eq (n:Node):rheadB n=(decide (rarN n.op≠-2) && (decide (rarN n.op < 0) || decide (n.len=rarN n.op)) && decide (0<=n.len) && decide (n.len<=3)):=by
 unfold rheadB;rcases arity_rar n.op with⟨h1,h2⟩ | ⟨h1,h2⟩ | ⟨h1,h2⟩
 ·rw [h2,h1];simp
 ·rw [h2,h1];simp
 ·rw [h2,Bool.eq_iff_iff];simp
  omega
theorem rstands_split (n:Node) (at':Int):standsN n at'=(rheadB n && argsTo n at' 3 && (decide (0<=n.sort) && decide (n.sort < 6) && decide (0<=n.fn) && decide (n.fn < 12) && (decide (n.op=13) || decide (n.fn=0))) && numOkB n):=by
 rw [stands_split];unfold headOkB rheadB fnOkB arLo arHi
 cases arityN n.op with
 | none=>simp
 | some p =>
  have e:(decide (0<=n.fn) && decide (n.fn < 12) && (decide (n.fn<=0) || decide (n.op=13)))=(decide (0<=n.fn) && decide (n.fn < 12) && (decide (n.op=13) || decide (n.fn=0))):=by
   rw [Bool.eq_iff_iff];simp;omega
  rw [e];generalize argsTo n at' 3=b1;generalize numOkB n=b2;generalize decide (0<=n.sort)=b3;generalize decide (n.sort < 6)=b4;generalize decide (0<=n.fn)=b5;generalize decide (n.fn < 12)=b6;generalize (decide (n.op=13) || decide (n.fn=0))=b7;simp only [Option.isSome_some,Bool.true_and];generalize decide (p.1<=n.len)=b8;generalize decide (n.len<=p.2)=b9
  cases b1 <;> cases b2 <;> cases b3 <;> cases b4 <;> cases b5 <;> cases b6 <;> cases b7 <;> cases b8 <;> cases b9 <;> rfl
theorem rterm_stands {w:World} {n:Node} (hi:NodeI n) (at':Int) :
  Calls Tryz.prog 83 #[nodeV n,.int .i64 at'] w fun e w'=>e=.returned (.bool (standsN n at'))/\Below w.heap.size w w':=by
 have HA:=kp (fun W=>rarity_any n.op W);have HS:=kp (rstands_split n at');have HH:=kp (rhead_eq n);have HN:=kp (show numOkB n=if n.op=10\/n.op=11\/n.op=12 then mayB n.n else decide (n.n=0) from rfl);have HI:=kp hi;have B1:=kp ((brq w).alloc nlq (.cells #[.int .i8 n.op,.int .i8 n.len,.int .i64 n.a0,.int .i64 n.a1,.int .i64 n.a2,.int .i64 n.sort,.int .i64 n.fn,.int .i64 n.n] 49));have N1:=kp (Bk.new w (.cells #[.int .i8 n.op,.int .i8 n.len,.int .i64 n.a0,.int .i64 n.a1,.int .i64 n.a2,.int .i64 n.sort,.int .i64 n.fn,.int .i64 n.n] 49));have HMy:=kp (fun W=>rmay01_any n.n W);generalize rarN n.op=ar at *;generalize standsN n at'=st at *;generalize rheadB n=hb0 at *;unfold nodeV;clear hi
 go_enter Tryz.func83,Tryz.ntmps83
 go_upto_region 1 with fail
 generalize w.alloc (.cells #[.int .i8 n.op,.int .i8 n.len,.int .i64 n.a0,.int .i64 n.a1,.int .i64 n.a2,.int .i64 n.sort,.int .i64 n.fn,.int .i64 n.n] 49)=w1 at *;obtain ⟨h0,h1,h2,h3,h4,h5,h6,h7,hf⟩:=Bk.c8 N1.out;have hl1:=HI.out.len.lo;have hl2:=HI.out.len.hi;go_wp2_with fail
 refine(HA.out _).mono ?_;rintro e w' ⟨rfl,rfl⟩
 cases hh:hb0 with
 | false =>
  have HR:=kp (show st=false by rw [HS.out,hh];rfl)
  have HB:=kp (show ar≠-2->¬ (0<=ar/\n.len≠ar)->¬ n.len < 0->3 < n.len from fun e1 e2 e3=>by
   have:=HH.out;rw [hh,decide_eq_true e1,decide_eq_true (show 0<=n.len by omega)] at this;have e4:(decide (ar < 0) || decide (n.len=ar))=true:=by simp;omega
   rw [e4] at this;simp at this;exact this)
  clear HS HN hh HH
  by_cases c1:ar=-2
  ·have c1':(ar == -2)=true:=by simp [c1]
   clear c1;go_wp2_with fail
   go_ret;exact⟨ret_bool HR.out.symm,B1.out⟩
  have c1':(ar == -2)=false:=by simp [c1]
  by_cases c2:0<=ar
  ·by_cases c3:n.len=ar
   ·have c3':(n.len != ar)=false:=by simp [c3]
    by_cases c4:n.len < 0
    ·omega
    have c5:=HB.out c1 (by omega) c4;clear c1 c3;replace c4:=dfq c4;go_wp2_with fail
    go_ret;exact⟨ret_bool HR.out.symm,B1.out⟩
   ·have c3':(n.len != ar)=true:=by simp [c3]
    clear c1 c3;go_wp2_with fail
    go_ret;exact⟨ret_bool HR.out.symm,B1.out⟩
  ·by_cases c4:n.len < 0
   ·replace c2:=dfq c2;clear c1;go_wp2_with fail
    go_ret;exact⟨ret_bool HR.out.symm,B1.out⟩
   ·have c5:=HB.out c1 (by omega) c4;replace c2:=dfq c2;replace c4:=dfq c4;clear c1;go_wp2_with fail
    go_ret;exact⟨ret_bool HR.out.symm,B1.out⟩
 | true =>
  have hc:=HH.out.symm.trans hh;simp only [Bool.and_eq_true,Bool.or_eq_true,decide_eq_true_eq] at hc;obtain ⟨⟨⟨c1,c2⟩,c3⟩,c4⟩:=hc;have d1:(ar == -2)=false:=by simp [c1]
  have d3:decide (n.len < 0)=false:=dfq (by omega);have d4:decide (3 < n.len)=false:=dfq (by omega)
  have HAr:=kp (show(decide (0<=ar)=false)\/(0<=ar/\(n.len != ar)=false) by
   rcases c2 with c2 | c2
   ·exact .inl (dfq (by omega))
   ·by_cases h:0<=ar
    ·exact .inr ⟨h,by simp [c2]⟩
    ·exact .inl (dfq h))
  replace HS:=kp (show st=(argsTo n at' 3 && (decide (0<=n.sort) && decide (n.sort < 6) && decide (0<=n.fn) && decide (n.fn < 12) && (decide (n.op=13) || decide (n.fn=0))) && numOkB n) by rw [HS.out,hh];simp);clear HH hh c1 c2;have hal:=HAr.out;rcases hal with d2 | ⟨d2,d5⟩
  all_goals
   go_wp2_with fail
   clear d1 d2 d3 d4;try clear d5
   go_loop [6] (fun v=>∃ k:Nat,k<=3/\v=.int .i64 k/\argsTo n at' k=true) (fun v=>3 - (intOf v).toNat)
   case atStart=>exact⟨0,by omega,rfl,rfl⟩
   case round =>
    obtain ⟨k,hk,rfl,hto⟩:=hrel;have HTo:=kp hto;clear hto;have:k=0\/k=1\/k=2\/k=3:=by omega
    rcases this with rfl | rfl | rfl | rfl
    ·skip;have HArg:=kp (show argOkB n at' 0=if(0:Int) < n.len then decide (0<=n.a0/\n.a0 < at') else decide (n.a0=0) from rfl)
     by_cases cl:(0:Int) < n.len
     ·by_cases c1:n.a0 < 0
      ·have HR:=kp (show st=false by rw [HS.out,argsTo_stop (k:=0) (by decide) (by rw [HArg.out,if_pos cl];exact dfq (by omega))];simp);go_wp2_with fail
       go_ret;exact⟨ret_bool HR.out.symm,B1.out⟩
      ·by_cases c2:at'<=n.a0
       ·have HR:=kp (show st=false by rw [HS.out,argsTo_stop (k:=0) (by decide) (by rw [HArg.out,if_pos cl];exact dfq (by omega))];simp);replace c1:=dfq c1;go_wp2_with fail
        go_ret;exact⟨ret_bool HR.out.symm,B1.out⟩
       ·have HQ:=kp (show argsTo n at' 1=true by rw [argsTo_succ,HTo.out,HArg.out,if_pos cl];simp;omega);replace c1:=dfq c1;replace c2:=dfq c2;have c3:decide (n.len<=(0:Int))=false:=dfq (by omega);go_wp2_with fail
        go_round
        case rel=>exact⟨1,by omega,by go_num,HQ.out⟩
        case measure=>simp [intOf]
     ·have cl':n.len<=(0:Int):=by omega
      by_cases c1:n.a0=0
      ·have HQ:=kp (show argsTo n at' 1=true by rw [argsTo_succ,HTo.out,HArg.out,if_neg cl,c1];rfl);have c2:(n.a0 != 0)=false:=by simp [c1]
       replace cl:=dfq cl;clear c1;go_wp2_with fail
       go_round
       case rel=>exact⟨1,by omega,by go_num,HQ.out⟩
       case measure=>simp [intOf]
      ·have HR:=kp (show st=false by rw [HS.out,argsTo_stop (k:=0) (by decide) (by rw [HArg.out,if_neg cl];exact dfq c1)];simp);have c2:(n.a0 != 0)=true:=by simp [c1]
       replace cl:=dfq cl;clear c1;go_wp2_with fail
       go_ret;exact⟨ret_bool HR.out.symm,B1.out⟩
    ·skip;have HArg:=kp (show argOkB n at' 1=if(1:Int) < n.len then decide (0<=n.a1/\n.a1 < at') else decide (n.a1=0) from rfl)
     by_cases cl:(1:Int) < n.len
     ·by_cases c1:n.a1 < 0
      ·have HR:=kp (show st=false by rw [HS.out,argsTo_stop (k:=1) (by decide) (by rw [HArg.out,if_pos cl];exact dfq (by omega))];simp);go_wp2_with fail
       go_ret;exact⟨ret_bool HR.out.symm,B1.out⟩
      ·by_cases c2:at'<=n.a1
       ·have HR:=kp (show st=false by rw [HS.out,argsTo_stop (k:=1) (by decide) (by rw [HArg.out,if_pos cl];exact dfq (by omega))];simp);replace c1:=dfq c1;go_wp2_with fail
        go_ret;exact⟨ret_bool HR.out.symm,B1.out⟩
       ·have HQ:=kp (show argsTo n at' 2=true by rw [argsTo_succ,HTo.out,HArg.out,if_pos cl];simp;omega);replace c1:=dfq c1;replace c2:=dfq c2;have c3:decide (n.len<=(1:Int))=false:=dfq (by omega);go_wp2_with fail
        go_round
        case rel=>exact⟨2,by omega,by go_num,HQ.out⟩
        case measure=>simp [intOf]
     ·have cl':n.len<=(1:Int):=by omega
      by_cases c1:n.a1=0
      ·have HQ:=kp (show argsTo n at' 2=true by rw [argsTo_succ,HTo.out,HArg.out,if_neg cl,c1];rfl);have c2:(n.a1 != 0)=false:=by simp [c1]
       replace cl:=dfq cl;clear c1;go_wp2_with fail
       go_round
       case rel=>exact⟨2,by omega,by go_num,HQ.out⟩
       case measure=>simp [intOf]
      ·have HR:=kp (show st=false by rw [HS.out,argsTo_stop (k:=1) (by decide) (by rw [HArg.out,if_neg cl];exact dfq c1)];simp);have c2:(n.a1 != 0)=true:=by simp [c1]
       replace cl:=dfq cl;clear c1;go_wp2_with fail
       go_ret;exact⟨ret_bool HR.out.symm,B1.out⟩
    ·skip;have HArg:=kp (show argOkB n at' 2=if(2:Int) < n.len then decide (0<=n.a2/\n.a2 < at') else decide (n.a2=0) from rfl)
     by_cases cl:(2:Int) < n.len
     ·by_cases c1:n.a2 < 0
      ·have HR:=kp (show st=false by rw [HS.out,argsTo_stop (k:=2) (by decide) (by rw [HArg.out,if_pos cl];exact dfq (by omega))];simp);go_wp2_with fail
       go_ret;exact⟨ret_bool HR.out.symm,B1.out⟩
      ·by_cases c2:at'<=n.a2
       ·have HR:=kp (show st=false by rw [HS.out,argsTo_stop (k:=2) (by decide) (by rw [HArg.out,if_pos cl];exact dfq (by omega))];simp);replace c1:=dfq c1;go_wp2_with fail
        go_ret;exact⟨ret_bool HR.out.symm,B1.out⟩
       ·have HQ:=kp (show argsTo n at' 3=true by rw [argsTo_succ,HTo.out,HArg.out,if_pos cl];simp;omega);replace c1:=dfq c1;replace c2:=dfq c2;have c3:decide (n.len<=(2:Int))=false:=dfq (by omega);go_wp2_with fail
        go_round
        case rel=>exact⟨3,by omega,by go_num,HQ.out⟩
        case measure=>simp [intOf]
     ·have cl':n.len<=(2:Int):=by omega
      by_cases c1:n.a2=0
      ·have HQ:=kp (show argsTo n at' 3=true by rw [argsTo_succ,HTo.out,HArg.out,if_neg cl,c1];rfl);have c2:(n.a2 != 0)=false:=by simp [c1]
       replace cl:=dfq cl;clear c1;go_wp2_with fail
       go_round
       case rel=>exact⟨3,by omega,by go_num,HQ.out⟩
       case measure=>simp [intOf]
      ·have HR:=kp (show st=false by rw [HS.out,argsTo_stop (k:=2) (by decide) (by rw [HArg.out,if_neg cl];exact dfq c1)];simp);have c2:(n.a2 != 0)=true:=by simp [c1]
       replace cl:=dfq cl;clear c1;go_wp2_with fail
       go_ret;exact⟨ret_bool HR.out.symm,B1.out⟩
    ·have hi1:=HI.out.op.lo;have hi2:=HI.out.op.hi;replace HS:=kp (show st=((decide (0<=n.sort) && decide (n.sort < 6) && decide (0<=n.fn) && decide (n.fn < 12) && (decide (n.op=13) || decide (n.fn=0))) && numOkB n) by rw [HS.out,HTo.out];simp);clear hl1 hl2
     by_cases f1:n.sort < 0
     ·have HR:=kp (show st=false by rw [HS.out,dfq (show ¬ 0<=n.sort by omega)];simp);go_wp2_with fail
      go_ret;exact⟨ret_bool HR.out.symm,B1.out⟩
     have g1:=dfq f1
     by_cases f2:6<=n.sort
     ·have HR:=kp (show st=false by rw [HS.out,dfq (show ¬ n.sort < 6 by omega)];simp);go_wp2_with fail
      go_ret;exact⟨ret_bool HR.out.symm,B1.out⟩
     have g2:=dfq f2
     by_cases f3:n.fn < 0
     ·have HR:=kp (show st=false by rw [HS.out,dfq (show ¬ 0<=n.fn by omega)];simp);go_wp2_with fail
      go_ret;exact⟨ret_bool HR.out.symm,B1.out⟩
     have g3:=dfq f3
     by_cases f4:12<=n.fn
     ·have HR:=kp (show st=false by rw [HS.out,dfq (show ¬ n.fn < 12 by omega)];simp);go_wp2_with fail
      go_ret;exact⟨ret_bool HR.out.symm,B1.out⟩
     have g4:=dfq f4
     by_cases f5:n.op=13
     ·have f5':(n.op != 13)=false:=by simp [f5]
      have g10:(n.op == 10)=false:=by rw [f5];rfl
      have g11:(n.op == 11)=false:=by rw [f5];rfl
      have g12:(n.op == 12)=false:=by rw [f5];rfl
      replace HS:=kp (show st=(n.n == 0) by
       rw [HS.out,HN.out,if_neg (by omega),decide_eq_true (show 0<=n.sort by omega),decide_eq_true (show n.sort < 6 by omega),decide_eq_true (show 0<=n.fn by omega),decide_eq_true (show n.fn < 12 by omega),decide_eq_true f5];rfl)
      clear f1 f2 f3 f4 f5 hi1 hi2;go_wp2_with fail
      go_ret;exact⟨ret_bool HS.out.symm,B1.out⟩
     ·have f5':(n.op != 13)=true:=by simp [f5]
      by_cases f6:n.fn=0
      ·have f6':(n.fn != 0)=false:=by simp [f6]
       replace HS:=kp (show st=numOkB n by
        rw [HS.out,decide_eq_true (show 0<=n.sort by omega),decide_eq_true (show n.sort < 6 by omega),decide_eq_true (show 0<=n.fn by omega),decide_eq_true (show n.fn < 12 by omega),decide_eq_true f6];simp)
       clear f1 f2 f3 f4 f6
       by_cases g:n.op=10\/n.op=11\/n.op=12
       ·replace HS:=kp (show st=mayB n.n by rw [HS.out,HN.out,if_pos g])
        have gg:((n.op == 10)=true)\/((n.op == 10)=false/\(n.op == 11)=true)\/((n.op == 10)=false/\(n.op == 11)=false/\(n.op == 12)=true):=by
         rcases g with h | h | h <;> rw [h] <;> decide
        clear g hi1 hi2 f5;rcases gg with g1 | ⟨g1,g2⟩ | ⟨g1,g2,g3⟩
        all_goals
         go_wp2_with fail
         refine(HMy.out _).mono ?_;rintro e w2 ⟨rfl,rfl⟩;go_wp2_with fail
         go_ret;exact⟨ret_bool HS.out.symm,B1.out⟩
       ·have g10:(n.op == 10)=false:=by rw [beq_eq_false_iff_ne];omega
        have g11:(n.op == 11)=false:=by rw [beq_eq_false_iff_ne];omega
        have g12:(n.op == 12)=false:=by rw [beq_eq_false_iff_ne];omega
        replace HS:=kp (show st=(n.n == 0) by rw [HS.out,HN.out,if_neg g];rfl);clear g hi1 hi2 f5;go_wp2_with fail
        go_ret;exact⟨ret_bool HS.out.symm,B1.out⟩
      ·have f6':(n.fn != 0)=true:=by simp [f6]
       have HR:=kp (show st=false by rw [HS.out,dfq f5,dfq f6];simp);clear f5 f6 hi1 hi2;go_wp2_with fail
       go_ret;exact⟨ret_bool HR.out.symm,B1.out⟩
end El
end Go.Proofs.YtpmdcckapddchaaGreatDoor
