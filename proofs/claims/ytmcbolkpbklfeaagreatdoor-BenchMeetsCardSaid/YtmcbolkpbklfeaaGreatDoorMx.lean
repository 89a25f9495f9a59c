import Derived.Test.YtmcbolkpbklfeaaGreatDoorShort
import Derived.Test.YtmcbolkpbklfeaaGreatDoorMp
/- merged by wip/merge.py from: TmStands -/
set_option maxRecDepth 100000
set_option maxHeartbeats 51200000
namespace Go.Proofs.YtmcbolkpbklfeaaGreatDoor
namespace El
open Go.RowKit Dt Sg
def argsTo (n:Node) (at':Int) (k:Nat):Bool:=(List.range k).all fun i=>argOkB n at' i
theorem argsTo_succ (n:Node) (at':Int) (k:Nat):argsTo n at' (k+1)=(argsTo n at' k && argOkB n at' k):=by unfold argsTo;rw [List.range_succ,List.all_append];simp
theorem argsTo_stop {n:Node} {at':Int} {k:Nat} (hk:k < 3) (h:argOkB n at' k=false):argsTo n at' 3=false:=by
 unfold argsTo;rw [List.all_eq_false];exact⟨k,List.mem_range.2 hk,by rw [h];simp⟩
def headOkB (n:Node):Bool:=(arityN n.op).isSome && decide (arLo n.op<=n.len) && decide (n.len<=arHi n.op) && decide (0<=n.sort) && decide (n.sort < 6)
def fnOkB (n:Node):Bool:=decide (0<=n.fn) && decide (n.fn < 12) && (decide (n.fn<=0) || decide (n.op=13))
def numOkB (n:Node):Bool:=if n.op=10\/n.op=11\/n.op=12 then mayB n.n else decide (n.n=0)
theorem stands_split (n:Node) (at':Int):standsN n at'=(headOkB n && argsTo n at' 3 && fnOkB n && numOkB n):=by
 unfold standsN headOkB arLo arHi
 have e:argsTo n at' 3=(argOkB n at' 0 && argOkB n at' 1 && argOkB n at' 2):=by
  rw [argsTo_succ,argsTo_succ,argsTo_succ];rfl
 rw [e]
 have f:fnOkB n=(decide (0<=n.fn/\n.fn < 12) && (decide (n.fn=0) || decide (n.op=13))):=by
  unfold fnOkB;rw [Bool.eq_iff_iff];simp
  omega
 rw [f];unfold numOkB
 cases arityN n.op with
 | none=>rfl
 | some p =>
  obtain ⟨lo,hi⟩:=p;rw [Bool.eq_iff_iff];simp [Bool.and_eq_true];intro _
  constructor
  ·intro h;simp_all
  ·intro h;simp_all
theorem stands_any {w:World} {b o:Nat} {n:Node} (h:NodeAt w b o n) (hi:NodeI n) (at':Int) :
  Calls Tryz.prog 234 #[.pointer (some ⟨b,o,none⟩),.int .i64 at'] w fun e w'=>e=.returned (.bool (standsN n at'))/\Below w.heap.size w w':=by
 have HA:=kp (arity_any n.op hi.op w);have HS:=kp (stands_split n at');have HH:=kp (show headOkB n=((arityN n.op).isSome && decide (arLo n.op<=n.len) && decide (n.len<=arHi n.op) && decide (0<=n.sort) && decide (n.sort < 6)) from rfl);have HF:=kp (show fnOkB n=(decide (0<=n.fn) && decide (n.fn < 12) && (decide (n.fn<=0) || decide (n.op=13))) from rfl);have HN:=kp (show numOkB n=if n.op=10\/n.op=11\/n.op=12 then mayB n.n else decide (n.n=0) from rfl);have H0:=kp h;have HI:=kp hi;generalize (arityN n.op).isSome=ok at *;generalize arLo n.op=lo at *;generalize arHi n.op=ahi at *;generalize standsN n at'=st at *;generalize headOkB n=hb0 at *;obtain ⟨hbl,h0,h1,h2,h3,h4,h5,h6,h7⟩:=h;clear hi
 go_enter Tryz.func234,Tryz.ntmps234
 go_wp2_with fail
 refine HA.out.mono ?_;rintro e w1 ⟨rfl,hb⟩;have B1:=kp hb;have N1:=kp (H0.out.on hb);clear hb h0 h1 h2 h3 h4 h5 h6 h7;obtain ⟨hbl1,h0,h1,h2,h3,h4,h5,h6,h7⟩:=N1.out
 cases hh:hb0 with
 | false =>
  have HR:=kp (show st=false by rw [HS.out,hh];rfl);rw [hh] at HH
  have HB:=kp (show ok=true->¬ n.len < lo->¬ ahi < n.len->¬ n.sort < 0->6<=n.sort from fun e1 e2 e3 e4=>by
   have:=HH.out;rw [e1] at this;simp at this
   omega)
  clear HS HN HF hh HH H0
  cases ok with
  | false =>
   go_wp2_with fail
   go_ret;exact⟨ret_bool HR.out.symm,B1.out⟩
  | true =>
   by_cases c1:n.len < lo
   ·go_wp2_with fail
    go_ret;exact⟨ret_bool HR.out.symm,B1.out⟩
   ·by_cases c2:ahi < n.len
    ·replace c1:=dfq c1;go_wp2_with fail
     go_ret;exact⟨ret_bool HR.out.symm,B1.out⟩
    ·by_cases c3:n.sort < 0
     ·replace c1:=dfq c1;replace c2:=dfq c2;go_wp2_with fail
      go_ret;exact⟨ret_bool HR.out.symm,B1.out⟩
     ·have c4:=HB.out rfl c1 c2 c3;replace c1:=dfq c1;replace c2:=dfq c2;replace c3:=dfq c3;go_wp2_with fail
      go_ret;exact⟨ret_bool HR.out.symm,B1.out⟩
 | true =>
  have hc:=HH.out.symm.trans hh;simp only [Bool.and_eq_true,decide_eq_true_eq] at hc;obtain ⟨⟨⟨⟨rfl,c1⟩,c2⟩,c3⟩,c4⟩:=hc;have d1:decide (n.len < lo)=false:=dfq (by omega);have d2:decide (ahi < n.len)=false:=dfq (by omega);have d3:decide (n.sort < 0)=false:=dfq (by omega);have d4:decide (6<=n.sort)=false:=dfq (by omega);replace HS:=kp (show st=(argsTo n at' 3 && fnOkB n && numOkB n) by rw [HS.out,hh];simp);clear HH hh HA;go_wp2_with fail
  clear c1 c2 c3 c4 d1 d2 d3 d4;have hl1:=HI.out.len.lo;have hl2:=HI.out.len.hi
  go_loop [55] (fun v=>∃ k:Nat,k<=3/\v=.int .i64 k/\argsTo n at' k=true) (fun v=>3 - (intOf v).toNat)
  case atStart=>exact⟨0,by omega,rfl,rfl⟩
  case round =>
   obtain ⟨k,hk,rfl,hto⟩:=hrel;have HTo:=kp hto;clear hto;have:k=0\/k=1\/k=2\/k=3:=by omega
   rcases this with rfl | rfl | rfl | rfl
   ·skip;have hidx:(Instr.index 164 (.agg #[.int .i64 n.a0,.int .i64 n.a1,.int .i64 n.a2]) (.int .i64 0)).run Tryz.prog w1=.ok (.int .i64 n.a0) w1:=by kernel_rfl
    have HArg:=kp (show argOkB n at' 0=if(0:Int) < n.len then decide (0<=n.a0/\n.a0 < at') else decide (n.a0=0) from rfl)
    by_cases cl:(0:Int) < n.len
    ·by_cases c1:n.a0 < 0
     ·have HR:=kp (show st=false by rw [HS.out,argsTo_stop (k:=0) (by decide) (by rw [HArg.out,if_pos cl];exact dfq (by omega))];simp);go_wp2_with fail
      (go_ret;exact⟨ret_bool HR.out.symm,B1.out⟩)
     ·by_cases c2:at'<=n.a0
      ·have HR:=kp (show st=false by rw [HS.out,argsTo_stop (k:=0) (by decide) (by rw [HArg.out,if_pos cl];exact dfq (by omega))];simp);replace c1:=dfq c1;go_wp2_with fail
       (go_ret;exact⟨ret_bool HR.out.symm,B1.out⟩)
      ·have HQ:=kp (show argsTo n at' 1=true by rw [argsTo_succ,HTo.out,HArg.out,if_pos cl];simp;omega);replace c1:=dfq c1;replace c2:=dfq c2;have c3:decide (n.len<=(0:Int))=false:=dfq (by omega);go_wp2_with fail
       go_round
       case rel=>exact⟨1,by omega,by go_num,HQ.out⟩
       case measure=>simp [intOf]
    ·have cl':n.len<=(0:Int):=by omega
     by_cases c1:n.a0=0
     ·have HQ:=kp (show argsTo n at' 1=true by rw [argsTo_succ,HTo.out,HArg.out,if_neg cl,c1];rfl);have c2:(n.a0 != 0)=false:=by simp [c1]
      replace cl:=dfq cl;clear c1;go_wp2_with fail
      go_round
      case rel=>exact⟨1,by omega,by go_num,HQ.out⟩
      case measure=>simp [intOf]
     ·have HR:=kp (show st=false by rw [HS.out,argsTo_stop (k:=0) (by decide) (by rw [HArg.out,if_neg cl];exact dfq c1)];simp);have c2:(n.a0 != 0)=true:=by simp [c1]
      replace cl:=dfq cl;clear c1;go_wp2_with fail
      (go_ret;exact⟨ret_bool HR.out.symm,B1.out⟩)
   ·skip;have hidx:(Instr.index 164 (.agg #[.int .i64 n.a0,.int .i64 n.a1,.int .i64 n.a2]) (.int .i64 1)).run Tryz.prog w1=.ok (.int .i64 n.a1) w1:=by kernel_rfl
    have HArg:=kp (show argOkB n at' 1=if(1:Int) < n.len then decide (0<=n.a1/\n.a1 < at') else decide (n.a1=0) from rfl)
    by_cases cl:(1:Int) < n.len
    ·by_cases c1:n.a1 < 0
     ·have HR:=kp (show st=false by rw [HS.out,argsTo_stop (k:=1) (by decide) (by rw [HArg.out,if_pos cl];exact dfq (by omega))];simp);go_wp2_with fail
      (go_ret;exact⟨ret_bool HR.out.symm,B1.out⟩)
     ·by_cases c2:at'<=n.a1
      ·have HR:=kp (show st=false by rw [HS.out,argsTo_stop (k:=1) (by decide) (by rw [HArg.out,if_pos cl];exact dfq (by omega))];simp);replace c1:=dfq c1;go_wp2_with fail
       (go_ret;exact⟨ret_bool HR.out.symm,B1.out⟩)
      ·have HQ:=kp (show argsTo n at' 2=true by rw [argsTo_succ,HTo.out,HArg.out,if_pos cl];simp;omega);replace c1:=dfq c1;replace c2:=dfq c2;have c3:decide (n.len<=(1:Int))=false:=dfq (by omega);go_wp2_with fail
       go_round
       case rel=>exact⟨2,by omega,by go_num,HQ.out⟩
       case measure=>simp [intOf]
    ·have cl':n.len<=(1:Int):=by omega
     by_cases c1:n.a1=0
     ·have HQ:=kp (show argsTo n at' 2=true by rw [argsTo_succ,HTo.out,HArg.out,if_neg cl,c1];rfl);have c2:(n.a1 != 0)=false:=by simp [c1]
      replace cl:=dfq cl;clear c1;go_wp2_with fail
      go_round
      case rel=>exact⟨2,by omega,by go_num,HQ.out⟩
      case measure=>simp [intOf]
     ·have HR:=kp (show st=false by rw [HS.out,argsTo_stop (k:=1) (by decide) (by rw [HArg.out,if_neg cl];exact dfq c1)];simp);have c2:(n.a1 != 0)=true:=by simp [c1]
      replace cl:=dfq cl;clear c1;go_wp2_with fail
      (go_ret;exact⟨ret_bool HR.out.symm,B1.out⟩)
   ·skip;have hidx:(Instr.index 164 (.agg #[.int .i64 n.a0,.int .i64 n.a1,.int .i64 n.a2]) (.int .i64 2)).run Tryz.prog w1=.ok (.int .i64 n.a2) w1:=by kernel_rfl
    have HArg:=kp (show argOkB n at' 2=if(2:Int) < n.len then decide (0<=n.a2/\n.a2 < at') else decide (n.a2=0) from rfl)
    by_cases cl:(2:Int) < n.len
    ·by_cases c1:n.a2 < 0
     ·have HR:=kp (show st=false by rw [HS.out,argsTo_stop (k:=2) (by decide) (by rw [HArg.out,if_pos cl];exact dfq (by omega))];simp);go_wp2_with fail
      (go_ret;exact⟨ret_bool HR.out.symm,B1.out⟩)
     ·by_cases c2:at'<=n.a2
      ·have HR:=kp (show st=false by rw [HS.out,argsTo_stop (k:=2) (by decide) (by rw [HArg.out,if_pos cl];exact dfq (by omega))];simp);replace c1:=dfq c1;go_wp2_with fail
       (go_ret;exact⟨ret_bool HR.out.symm,B1.out⟩)
      ·have HQ:=kp (show argsTo n at' 3=true by rw [argsTo_succ,HTo.out,HArg.out,if_pos cl];simp;omega);replace c1:=dfq c1;replace c2:=dfq c2;have c3:decide (n.len<=(2:Int))=false:=dfq (by omega);go_wp2_with fail
       go_round
       case rel=>exact⟨3,by omega,by go_num,HQ.out⟩
       case measure=>simp [intOf]
    ·have cl':n.len<=(2:Int):=by omega
     by_cases c1:n.a2=0
     ·have HQ:=kp (show argsTo n at' 3=true by rw [argsTo_succ,HTo.out,HArg.out,if_neg cl,c1];rfl);have c2:(n.a2 != 0)=false:=by simp [c1]
      replace cl:=dfq cl;clear c1;go_wp2_with fail
      go_round
      case rel=>exact⟨3,by omega,by go_num,HQ.out⟩
      case measure=>simp [intOf]
     ·have HR:=kp (show st=false by rw [HS.out,argsTo_stop (k:=2) (by decide) (by rw [HArg.out,if_neg cl];exact dfq c1)];simp);have c2:(n.a2 != 0)=true:=by simp [c1]
      replace cl:=dfq cl;clear c1;go_wp2_with fail
      (go_ret;exact⟨ret_bool HR.out.symm,B1.out⟩)
   ·have hi1:=HI.out.op.lo;have hi2:=HI.out.op.hi;replace HS:=kp (show st=(fnOkB n && numOkB n) by rw [HS.out,HTo.out];simp);clear hl1 hl2
    by_cases f1:n.fn < 0
    ·have HR:=kp (show st=false by rw [HS.out,HF.out,dfq (show ¬ 0<=n.fn by omega)];simp);go_wp2_with fail
     go_ret;exact⟨ret_bool HR.out.symm,B1.out⟩
    ·by_cases f2:12<=n.fn
     ·have HR:=kp (show st=false by rw [HS.out,HF.out,dfq (show ¬ n.fn < 12 by omega)];simp);replace f1:=dfq f1;go_wp2_with fail
      go_ret;exact⟨ret_bool HR.out.symm,B1.out⟩
     ·have e1:=dfq f1;have e2:=dfq f2
      by_cases f3:0 < n.fn/\n.op≠13
      ·have HR:=kp (show st=false by rw [HS.out,HF.out,dfq (show ¬ n.fn<=0 by omega),dfq f3.2];simp);obtain ⟨f3,f4⟩:=f3;have f4':(n.op != 13)=true:=by rw [bne_iff_ne];exact f4
       clear f1 f2 f4;go_wp2_with fail
       go_ret;exact⟨ret_bool HR.out.symm,B1.out⟩
      ·replace HS:=kp (show st=numOkB n by
        rw [HS.out,HF.out,decide_eq_true (show 0<=n.fn by omega),decide_eq_true (show n.fn < 12 by omega)]
        by_cases f5:0 < n.fn
        ·rw [decide_eq_true (show n.op=13 from Decidable.byContradiction fun h=>f3 ⟨f5,h⟩)];simp
        ·rw [decide_eq_true (show n.fn<=0 by omega)];simp)
       by_cases f5:0 < n.fn
       ·have h13:n.op=13:=Decidable.byContradiction fun h=>f3 ⟨f5,h⟩;have f4':(n.op != 13)=false:=by rw [h13];rfl
        have g10:(n.op == 10)=false:=by rw [h13];rfl
        have g11:(n.op == 11)=false:=by rw [h13];rfl
        have g12:(n.op == 12)=false:=by rw [h13];rfl
        replace HS:=kp (show st=(n.n == 0) by rw [HS.out,HN.out,if_neg (by omega)];rfl);clear f1 f2 f3 h13 hi1 hi2;go_wp2_with fail
        go_ret;exact⟨ret_bool HS.out.symm,B1.out⟩
       ·replace f5:=dfq f5;clear f1 f2 f3
        by_cases g:n.op=10\/n.op=11\/n.op=12
        ·have HMy:=kp (may_any n.n HI.out.n w1);replace HS:=kp (show st=mayB n.n by rw [HS.out,HN.out,if_pos g])
         have g3:((n.op == 10)=true)\/((n.op == 10)=false/\(n.op == 11)=true)\/((n.op == 10)=false/\(n.op == 11)=false/\(n.op == 12)=true):=by
          rcases g with h | h | h <;> rw [h] <;> decide
         clear g hi1 hi2;rcases g3 with g1 | ⟨g1,g2⟩ | ⟨g1,g2,g3⟩
         all_goals
          go_wp2_with fail
          refine HMy.out.mono ?_;rintro e w2 ⟨rfl,rfl⟩;go_wp2_with fail
          go_ret;exact⟨ret_bool HS.out.symm,B1.out⟩
        ·have g10:(n.op == 10)=false:=by rw [beq_eq_false_iff_ne];omega
         have g11:(n.op == 11)=false:=by rw [beq_eq_false_iff_ne];omega
         have g12:(n.op == 12)=false:=by rw [beq_eq_false_iff_ne];omega
         replace HS:=kp (show st=(n.n == 0) by rw [HS.out,HN.out,if_neg g];rfl);clear g hi1 hi2;go_wp2_with fail
         go_ret;exact⟨ret_bool HS.out.symm,B1.out⟩
end El
end Go.Proofs.YtmcbolkpbklfeaaGreatDoor
