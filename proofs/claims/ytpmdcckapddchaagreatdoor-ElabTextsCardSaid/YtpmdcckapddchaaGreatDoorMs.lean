import Derived.Test.YtpmdcckapddchaaGreatDoorShort
import Derived.Test.YtpmdcckapddchaaGreatDoorMm
import Derived.Test.YtpmdcckapddchaaGreatDoorMq
/- merged by wip/merge.py from: TmStands TmCheck -/
set_option maxRecDepth 100000
set_option maxHeartbeats 51200000
namespace Go.Proofs.YtpmdcckapddchaaGreatDoor
namespace El
open Go.RowKit Dt Sg
def argsTo (n:Node) (at':Int) (k:Nat):Bool:=(List.range k).all fun i=>argOkB n at' i
theorem argsTo_succ (n:Node) (at':Int) (k:Nat):argsTo n at' (k+1)=(argsTo n at' k && argOkB n at' k):=by unfold argsTo;rw [List.range_succ,List.all_append];simp
theorem argsTo_stop {n:Node} {at':Int} {k:Nat} (hk:k < 3) (h:argOkB n at' k=false):argsTo n at' 3=false:=by
 unfold argsTo;rw [List.all_eq_false];exact⟨k,List.mem_range.2 hk,by rw [h];simp⟩
def headOkB (n:Node):Bool:=(arityN n.op).isSome && decide (arLo n.op<=n.len) && decide (n.len<=arHi n.op) && decide (0<=n.sort) && decide (n.sort < 6)
def fnOkB (n:Node):Bool:=decide (0<=n.fn) && decide (n.fn < 12) && (decide (n.fn<=0) || decide (n.op=13))
def numOkB (n:Node):Bool:=if n.op=10\/n.op=11\/n.op=12 then mayB n.n else decide (n.n=0)
theorem stands_split (n:Node) (at':Int):standsN n at'=(headOkB n && argsTo n at' 3 && fnOkB n && numOkB n):=by
 unfold standsN headOkB arLo arHi
 have e:argsTo n at' 3=(argOkB n at' 0 && argOkB n at' 1 && argOkB n at' 2):=by
  rw [argsTo_succ,argsTo_succ,argsTo_succ];rfl
 rw [e]
 have f:fnOkB n=(decide (0<=n.fn/\n.fn < 12) && (decide (n.fn=0) || decide (n.op=13))):=by
  unfold fnOkB;rw [Bool.eq_iff_iff];simp
  omega
 rw [f];unfold numOkB
 cases arityN n.op with
 | none=>rfl
 | some p =>
  obtain ⟨lo,hi⟩:=p;rw [Bool.eq_iff_iff];simp [Bool.and_eq_true];intro _
  constructor
  ·intro h;simp_all
  ·intro h;simp_all
theorem stands_any {w:World} {b o:Nat} {n:Node} (h:NodeAt w b o n) (hi:NodeI n) (at':Int) :
  Calls Tryz.prog 69 #[.pointer (some ⟨b,o,none⟩),.int .i64 at'] w fun e w'=>e=.returned (.bool (standsN n at'))/\Below w.heap.size w w':=by
 have HA:=kp (arity_any n.op hi.op w);have HS:=kp (stands_split n at');have HH:=kp (show headOkB n=((arityN n.op).isSome && decide (arLo n.op<=n.len) && decide (n.len<=arHi n.op) && decide (0<=n.sort) && decide (n.sort < 6)) from rfl);have HF:=kp (show fnOkB n=(decide (0<=n.fn) && decide (n.fn < 12) && (decide (n.fn<=0) || decide (n.op=13))) from rfl);have HN:=kp (show numOkB n=if n.op=10\/n.op=11\/n.op=12 then mayB n.n else decide (n.n=0) from rfl);have H0:=kp h;have HI:=kp hi;generalize (arityN n.op).isSome=ok at *;generalize arLo n.op=lo at *;generalize arHi n.op=ahi at *;generalize standsN n at'=st at *;generalize headOkB n=hb0 at *;obtain ⟨hbl,h0,h1,h2,h3,h4,h5,h6,h7⟩:=h;clear hi
 go_enter Tryz.func69,Tryz.ntmps69
 go_wp2_with fail
 refine HA.out.mono ?_;rintro e w1 ⟨rfl,hb⟩;have B1:=kp hb;have N1:=kp (H0.out.on hb);clear hb h0 h1 h2 h3 h4 h5 h6 h7;obtain ⟨hbl1,h0,h1,h2,h3,h4,h5,h6,h7⟩:=N1.out
 cases hh:hb0 with
 | false =>
  have HR:=kp (show st=false by rw [HS.out,hh];rfl);rw [hh] at HH
  have HB:=kp (show ok=true->¬ n.len < lo->¬ ahi < n.len->¬ n.sort < 0->6<=n.sort from fun e1 e2 e3 e4=>by
   have:=HH.out;rw [e1] at this;simp at this
   omega)
  clear HS HN HF hh HH H0
  cases ok with
  | false =>
   go_wp2_with fail
   go_ret;exact⟨ret_bool HR.out.symm,B1.out⟩
  | true =>
   by_cases c1:n.len < lo
   ·go_wp2_with fail
    go_ret;exact⟨ret_bool HR.out.symm,B1.out⟩
   ·by_cases c2:ahi < n.len
    ·replace c1:=dfq c1;go_wp2_with fail
     go_ret;exact⟨ret_bool HR.out.symm,B1.out⟩
    ·by_cases c3:n.sort < 0
     ·replace c1:=dfq c1;replace c2:=dfq c2;go_wp2_with fail
      go_ret;exact⟨ret_bool HR.out.symm,B1.out⟩
     ·have c4:=HB.out rfl c1 c2 c3;replace c1:=dfq c1;replace c2:=dfq c2;replace c3:=dfq c3;go_wp2_with fail
      go_ret;exact⟨ret_bool HR.out.symm,B1.out⟩
 | true =>
  have hc:=HH.out.symm.trans hh;simp only [Bool.and_eq_true,decide_eq_true_eq] at hc;obtain ⟨⟨⟨⟨rfl,c1⟩,c2⟩,c3⟩,c4⟩:=hc;have d1:decide (n.len < lo)=false:=dfq (by omega);have d2:decide (ahi < n.len)=false:=dfq (by omega);have d3:decide (n.sort < 0)=false:=dfq (by omega);have d4:decide (6<=n.sort)=false:=dfq (by omega);replace HS:=kp (show st=(argsTo n at' 3 && fnOkB n && numOkB n) by rw [HS.out,hh];simp);clear HH hh HA;go_wp2_with fail
  clear c1 c2 c3 c4 d1 d2 d3 d4;have hl1:=HI.out.len.lo;have hl2:=HI.out.len.hi
  go_loop [55] (fun v=>∃ k:Nat,k<=3/\v=.int .i64 k/\argsTo n at' k=true) (fun v=>3 - (intOf v).toNat)
  case atStart=>exact⟨0,by omega,rfl,rfl⟩
  case round =>
   obtain ⟨k,hk,rfl,hto⟩:=hrel;have HTo:=kp hto;clear hto;have:k=0\/k=1\/k=2\/k=3:=by omega
   rcases this with rfl | rfl | rfl | rfl
   ·skip;have hidx:(Instr.index 47 (.agg #[.int .i64 n.a0,.int .i64 n.a1,.int .i64 n.a2]) (.int .i64 0)).run Tryz.prog w1=.ok (.int .i64 n.a0) w1:=by kernel_rfl
    have HArg:=kp (show argOkB n at' 0=if(0:Int) < n.len then decide (0<=n.a0/\n.a0 < at') else decide (n.a0=0) from rfl)
    by_cases cl:(0:Int) < n.len
    ·by_cases c1:n.a0 < 0
     ·have HR:=kp (show st=false by rw [HS.out,argsTo_stop (k:=0) (by decide) (by rw [HArg.out,if_pos cl];exact dfq (by omega))];simp);go_wp2_with fail
      (go_ret;exact⟨ret_bool HR.out.symm,B1.out⟩)
     ·by_cases c2:at'<=n.a0
      ·have HR:=kp (show st=false by rw [HS.out,argsTo_stop (k:=0) (by decide) (by rw [HArg.out,if_pos cl];exact dfq (by omega))];simp);replace c1:=dfq c1;go_wp2_with fail
       (go_ret;exact⟨ret_bool HR.out.symm,B1.out⟩)
      ·have HQ:=kp (show argsTo n at' 1=true by rw [argsTo_succ,HTo.out,HArg.out,if_pos cl];simp;omega);replace c1:=dfq c1;replace c2:=dfq c2;have c3:decide (n.len<=(0:Int))=false:=dfq (by omega);go_wp2_with fail
       go_round
       case rel=>exact⟨1,by omega,by go_num,HQ.out⟩
       case measure=>simp [intOf]
    ·have cl':n.len<=(0:Int):=by omega
     by_cases c1:n.a0=0
     ·have HQ:=kp (show argsTo n at' 1=true by rw [argsTo_succ,HTo.out,HArg.out,if_neg cl,c1];rfl);have c2:(n.a0 != 0)=false:=by simp [c1]
      replace cl:=dfq cl;clear c1;go_wp2_with fail
      go_round
      case rel=>exact⟨1,by omega,by go_num,HQ.out⟩
      case measure=>simp [intOf]
     ·have HR:=kp (show st=false by rw [HS.out,argsTo_stop (k:=0) (by decide) (by rw [HArg.out,if_neg cl];exact dfq c1)];simp);have c2:(n.a0 != 0)=true:=by simp [c1]
      replace cl:=dfq cl;clear c1;go_wp2_with fail
      (go_ret;exact⟨ret_bool HR.out.symm,B1.out⟩)
   ·skip;have hidx:(Instr.index 47 (.agg #[.int .i64 n.a0,.int .i64 n.a1,.int .i64 n.a2]) (.int .i64 1)).run Tryz.prog w1=.ok (.int .i64 n.a1) w1:=by kernel_rfl
    have HArg:=kp (show argOkB n at' 1=if(1:Int) < n.len then decide (0<=n.a1/\n.a1 < at') else decide (n.a1=0) from rfl)
    by_cases cl:(1:Int) < n.len
    ·by_cases c1:n.a1 < 0
     ·have HR:=kp (show st=false by rw [HS.out,argsTo_stop (k:=1) (by decide) (by rw [HArg.out,if_pos cl];exact dfq (by omega))];simp);go_wp2_with fail
      (go_ret;exact⟨ret_bool HR.out.symm,B1.out⟩)
     ·by_cases c2:at'<=n.a1
      ·have HR:=kp (show st=false by rw [HS.out,argsTo_stop (k:=1) (by decide) (by rw [HArg.out,if_pos cl];exact dfq (by omega))];simp);replace c1:=dfq c1;go_wp2_with fail
       (go_ret;exact⟨ret_bool HR.out.symm,B1.out⟩)
      ·have HQ:=kp (show argsTo n at' 2=true by rw [argsTo_succ,HTo.out,HArg.out,if_pos cl];simp;omega);replace c1:=dfq c1;replace c2:=dfq c2;have c3:decide (n.len<=(1:Int))=false:=dfq (by omega);go_wp2_with fail
       go_round
       case rel=>exact⟨2,by omega,by go_num,HQ.out⟩
       case measure=>simp [intOf]
    ·have cl':n.len<=(1:Int):=by omega
     by_cases c1:n.a1=0
     ·have HQ:=kp (show argsTo n at' 2=true by rw [argsTo_succ,HTo.out,HArg.out,if_neg cl,c1];rfl);have c2:(n.a1 != 0)=false:=by simp [c1]
      replace cl:=dfq cl;clear c1;go_wp2_with fail
      go_round
      case rel=>exact⟨2,by omega,by go_num,HQ.out⟩
      case measure=>simp [intOf]
     ·have HR:=kp (show st=false by rw [HS.out,argsTo_stop (k:=1) (by decide) (by rw [HArg.out,if_neg cl];exact dfq c1)];simp);have c2:(n.a1 != 0)=true:=by simp [c1]
      replace cl:=dfq cl;clear c1;go_wp2_with fail
      (go_ret;exact⟨ret_bool HR.out.symm,B1.out⟩)
   ·skip;have hidx:(Instr.index 47 (.agg #[.int .i64 n.a0,.int .i64 n.a1,.int .i64 n.a2]) (.int .i64 2)).run Tryz.prog w1=.ok (.int .i64 n.a2) w1:=by kernel_rfl
    have HArg:=kp (show argOkB n at' 2=if(2:Int) < n.len then decide (0<=n.a2/\n.a2 < at') else decide (n.a2=0) from rfl)
    by_cases cl:(2:Int) < n.len
    ·by_cases c1:n.a2 < 0
     ·have HR:=kp (show st=false by rw [HS.out,argsTo_stop (k:=2) (by decide) (by rw [HArg.out,if_pos cl];exact dfq (by omega))];simp);go_wp2_with fail
      (go_ret;exact⟨ret_bool HR.out.symm,B1.out⟩)
     ·by_cases c2:at'<=n.a2
      ·have HR:=kp (show st=false by rw [HS.out,argsTo_stop (k:=2) (by decide) (by rw [HArg.out,if_pos cl];exact dfq (by omega))];simp);replace c1:=dfq c1;go_wp2_with fail
       (go_ret;exact⟨ret_bool HR.out.symm,B1.out⟩)
      ·have HQ:=kp (show argsTo n at' 3=true by rw [argsTo_succ,HTo.out,HArg.out,if_pos cl];simp;omega);replace c1:=dfq c1;replace c2:=dfq c2;have c3:decide (n.len<=(2:Int))=false:=dfq (by omega);go_wp2_with fail
       go_round
       case rel=>exact⟨3,by omega,by go_num,HQ.out⟩
       case measure=>simp [intOf]
    ·have cl':n.len<=(2:Int):=by omega
     by_cases c1:n.a2=0
     ·have HQ:=kp (show argsTo n at' 3=true by rw [argsTo_succ,HTo.out,HArg.out,if_neg cl,c1];rfl);have c2:(n.a2 != 0)=false:=by simp [c1]
      replace cl:=dfq cl;clear c1;go_wp2_with fail
      go_round
      case rel=>exact⟨3,by omega,by go_num,HQ.out⟩
      case measure=>simp [intOf]
     ·have HR:=kp (show st=false by rw [HS.out,argsTo_stop (k:=2) (by decide) (by rw [HArg.out,if_neg cl];exact dfq c1)];simp);have c2:(n.a2 != 0)=true:=by simp [c1]
      replace cl:=dfq cl;clear c1;go_wp2_with fail
      (go_ret;exact⟨ret_bool HR.out.symm,B1.out⟩)
   ·have hi1:=HI.out.op.lo;have hi2:=HI.out.op.hi;replace HS:=kp (show st=(fnOkB n && numOkB n) by rw [HS.out,HTo.out];simp);clear hl1 hl2
    by_cases f1:n.fn < 0
    ·have HR:=kp (show st=false by rw [HS.out,HF.out,dfq (show ¬ 0<=n.fn by omega)];simp);go_wp2_with fail
     go_ret;exact⟨ret_bool HR.out.symm,B1.out⟩
    ·by_cases f2:12<=n.fn
     ·have HR:=kp (show st=false by rw [HS.out,HF.out,dfq (show ¬ n.fn < 12 by omega)];simp);replace f1:=dfq f1;go_wp2_with fail
      go_ret;exact⟨ret_bool HR.out.symm,B1.out⟩
     ·have e1:=dfq f1;have e2:=dfq f2
      by_cases f3:0 < n.fn/\n.op≠13
      ·have HR:=kp (show st=false by rw [HS.out,HF.out,dfq (show ¬ n.fn<=0 by omega),dfq f3.2];simp);obtain ⟨f3,f4⟩:=f3;have f4':(n.op != 13)=true:=by rw [bne_iff_ne];exact f4
       clear f1 f2 f4;go_wp2_with fail
       go_ret;exact⟨ret_bool HR.out.symm,B1.out⟩
      ·replace HS:=kp (show st=numOkB n by
        rw [HS.out,HF.out,decide_eq_true (show 0<=n.fn by omega),decide_eq_true (show n.fn < 12 by omega)]
        by_cases f5:0 < n.fn
        ·rw [decide_eq_true (show n.op=13 from Decidable.byContradiction fun h=>f3 ⟨f5,h⟩)];simp
        ·rw [decide_eq_true (show n.fn<=0 by omega)];simp)
       by_cases f5:0 < n.fn
       ·have h13:n.op=13:=Decidable.byContradiction fun h=>f3 ⟨f5,h⟩;have f4':(n.op != 13)=false:=by rw [h13];rfl
        have g10:(n.op == 10)=false:=by rw [h13];rfl
        have g11:(n.op == 11)=false:=by rw [h13];rfl
        have g12:(n.op == 12)=false:=by rw [h13];rfl
        replace HS:=kp (show st=(n.n == 0) by rw [HS.out,HN.out,if_neg (by omega)];rfl);clear f1 f2 f3 h13 hi1 hi2;go_wp2_with fail
        go_ret;exact⟨ret_bool HS.out.symm,B1.out⟩
       ·replace f5:=dfq f5;clear f1 f2 f3
        by_cases g:n.op=10\/n.op=11\/n.op=12
        ·have HMy:=kp (may_any n.n HI.out.n w1);replace HS:=kp (show st=mayB n.n by rw [HS.out,HN.out,if_pos g])
         have g3:((n.op == 10)=true)\/((n.op == 10)=false/\(n.op == 11)=true)\/((n.op == 10)=false/\(n.op == 11)=false/\(n.op == 12)=true):=by
          rcases g with h | h | h <;> rw [h] <;> decide
         clear g hi1 hi2;rcases g3 with g1 | ⟨g1,g2⟩ | ⟨g1,g2,g3⟩
         all_goals
          go_wp2_with fail
          refine HMy.out.mono ?_;rintro e w2 ⟨rfl,rfl⟩;go_wp2_with fail
          go_ret;exact⟨ret_bool HS.out.symm,B1.out⟩
        ·have g10:(n.op == 10)=false:=by rw [beq_eq_false_iff_ne];omega
         have g11:(n.op == 11)=false:=by rw [beq_eq_false_iff_ne];omega
         have g12:(n.op == 12)=false:=by rw [beq_eq_false_iff_ne];omega
         replace HS:=kp (show st=(n.n == 0) by rw [HS.out,HN.out,if_neg g];rfl);clear g hi1 hi2;go_wp2_with fail
         go_ret;exact⟨ret_bool HS.out.symm,B1.out⟩
end El
namespace El
open Go.RowKit Go.Maps Dt Sg
def checkTE (t:List Node):Int:=if checkT t then 0 else 2
theorem standsTo_succ {t:List Node} {k:Nat} {n:Node} (h:t[k]?=some n):standsTo t (k+1)=(standsTo t k && standsN n k):=by
 unfold standsTo;rw [List.range_succ,List.all_append];simp [h]
theorem standsTo_stop {t:List Node} {k:Nat} {n:Node} (h:t[k]?=some n) (hs:standsN n k=false):standsTo t t.length=false:=by
 unfold standsTo;rw [List.all_eq_false];exact⟨k,List.mem_range.2 (gqs h).1,by rw [h];simp [hs]⟩
theorem tcheck_any {w:World} {A:Option Addr} {c:Nat} {t:List Node} (h:Lies 8 NodeR w A t) (hl:t.length<=1000000) (hc:t.length<=c) (hcm:c<=maxLen) :
  Calls Tryz.prog 36 #[.agg #[.slice A t.length c]] w fun e w'=>e=.returned (.int .i64 (checkTE t))/\Below w.heap.size w w':=by
 have HC:=kp (show checkTE t=if(decide (t.take 2=newT) && standsTo t t.length && decide t.Nodup) then 0 else 2 from rfl);have HL:=kp h;have TB:=kp (Bk.new w (.cells #[.slice A t.length c] 29));have B1:=kp ((brq w).alloc nlq (.cells #[.slice A t.length c] 29));unfold maxLen at hcm;clear h;generalize checkTE t=ce at *
 go_enter Tryz.func36,Tryz.ntmps36
 go_upto_region 1 with fail
 generalize w.alloc (.cells #[.slice A t.length c] 29)=w1 at *;have B0:=kp (brq w1).drew
 by_cases h2:t.length < 2
 ·have h2':(t.length:Int) < 2:=by omega
  have HR:=kp (show ce=2 by
   rw [HC.out];have:¬ t.take 2=newT:=fun e=>by have:=congrArg List.length e;rw [List.length_take] at this;simp [newT] at this;omega
   rw [dfq this];rfl)
  go_wp2_with fail
  refine wp_region_held_drew (S:=fun W=>W.heap[w.heap.size]?=some (.cells #[.slice A t.length c] 29 (0,0))) (by kernel_rfl) (TB.out) (fun hHeld=>?_);refine plz [0,1,2,3,4] ?_;iterate 5 (refine tnz (v:=?_) ?_ ?_;rotate_left;(focus first | ((intro w hSw;go_simp;try with_reducible rfl);done) | ((intro w hSw;(obtain ⟨h0,hf⟩:=Bk.c1 hSw;go_simp;try with_reducible rfl));done));try simp only [pt])
  refine pzz ?_;refine sk 5 ?_;try simp only [pt]
  refine sk 6 ?_;try simp only [pt]
  refine sk 7 ?_;try simp only [pt]
  refine sk 8 ?_;try simp only [pt]
  refine sk 9 ?_;try simp only [pt]
  refine sk 10 ?_;try simp only [pt]
  refine sk 11 ?_;try simp only [pt]
  refine tk 12 (v:=?_) ?_ ?_;rotate_left
  ·(intro w hSw;go_simp;try with_reducible rfl)
  try simp only [pt]
  refine dnz ?_;clear hHeld;go_wp2_with fail
  go_ret;exact⟨ret_int HR.out.symm,B1.out.trans (B0.out.mono B1.out.size)⟩
 ·have h2':decide ((t.length:Int) < 2)=false:=dfq (by omega);have h2n:2<=t.length:=by omega
  have h2c:(2:Int)<=(c:Int):=by omega
  obtain ⟨b,o,rfl,hat0,_⟩:=node_get HL.out (gqe (show 0 < t.length by omega));clear hat0;go_wp2_with fail
  refine wp_region_held_drew (S:=fun W=>Below w1.heap.size w1 W) (by kernel_rfl) (B0.out) (fun hHeld=>?_);refine plz [0,1,2,3,4,5,6,7] ?_;iterate 8 (refine tnz (v:=?_) ?_ ?_;rotate_left;(focus first | ((intro w hSw;go_simp;try with_reducible rfl);done) | ((intro w hSw;(obtain ⟨h0,hf⟩:=Bk.c1 (Bk.on TB.out hSw);go_simp;try with_reducible rfl));done));try simp only [pt])
  refine pzz ?_;refine rd 8 fun K hK=>?_;go_simp
  go_wp2_with (go_at_call 12;refine(tnew_any _).mono ?_;rintro e W1 ⟨g,rfl,hg,hgb,hb⟩;have B2:=kp (B0.out.trans (hb.mono B0.out.size));have NB:=kp hgb;clear hb hg hgb)
  refine hK.out _ _ (B2.out) (fun hHeld=>?_);clear hK K;try simp only [pt]
  have hfield:∀ W,(Instr.field 29 (.agg #[.slice (some ⟨g,0,none⟩) 2 2]) 0).run Tryz.prog W=.ok (.slice (some ⟨g,0,none⟩) 2 2) W:=fun W=>by kernel_rfl
  refine tk 9 (v:=?_) ?_ ?_;rotate_left
  ·(intro w hSw;go_simp;try with_reducible rfl)
  try simp only [pt]
  clear hfield;have HE:=kp (eqNodes_any (A:=some ⟨b,o,none⟩) (B:=some ⟨g,0,none⟩) (xs:=t.take 2) (ys:=newT) c 2 ((HL.out.on NodeR.lasts (B1.out.trans (B2.out.mono B1.out.size))).take 2) (new_lies NB.out) (by rw [List.length_take];omega));rw [show(t.take 2).length=2 by rw [List.length_take];omega,show newT.length=2 from rfl] at HE;refine rd 10 fun K hK=>?_;go_simp
  go_wp2_with (go_at_call 33;refine HE.out.mono ?_;rintro e W2 ⟨rfl,hb⟩;have B3:=kp (B2.out.trans (hb.mono B2.out.size));clear hb)
  refine hK.out _ _ (B3.out) (fun hHeld=>?_);clear hK K;try simp only [pt]
  cases hq:decide (t.take 2=newT) with
  | false =>
   have HR:=kp (show ce=2 by rw [HC.out,hq];rfl);refine plz [11,12] ?_;iterate 2 (refine tnz (v:=?_) ?_ ?_;rotate_left;(focus (intro w hSw;go_simp;try with_reducible rfl));try simp only [pt])
   refine pzz ?_;refine dnz ?_;clear hHeld;go_wp2_with fail
   go_ret;exact⟨ret_int HR.out.symm,B1.out.trans (B3.out.mono B1.out.size)⟩
  | true =>
   replace HC:=kp (show ce=if(standsTo t t.length && decide t.Nodup) then 0 else 2 by rw [HC.out,hq];rfl);refine plz [11,12] ?_;iterate 2 (refine tnz (v:=?_) ?_ ?_;rotate_left;(focus (intro w hSw;go_simp;try with_reducible rfl));try simp only [pt])
   refine pzz ?_;refine dnz ?_;clear hHeld hq HE NB;have BW:=kp (B1.out.trans (B3.out.mono B1.out.size));have TW:=kp (Bk.on TB.out B3.out);obtain ⟨q0,qf⟩:=Bk.c1 TW.out;go_wp2_with fail
   clear q0 qf
   go_loopw [22] (fun v wr=>∃ k:Nat,k<=t.length/\v=.int .i64 k/\standsTo t k=true/\Below W2.heap.size W2 wr) (fun v _=>t.length - (intOf v).toNat)
   case atStart=>exact⟨0,Nat.zero_le _,rfl,rfl,Below.refl _ _⟩
   case round =>
    obtain ⟨k,hk,rfl,hto,hb⟩:=hrel;have HTo:=kp hto;have HB:=kp hb;have HBW:=kp (BW.out.trans (hb.mono BW.out.size));have TBr:=kp (Bk.on TW.out hb);clear hto hb;obtain ⟨q0,qf⟩:=Bk.c1 TBr.out
    by_cases hlt:k < t.length
    ·have hlt2:(k:Int) < (t.length:Int):=by omega
     obtain ⟨n,hn⟩:∃ n,t[k]?=some n:=⟨_,gqe hlt⟩;obtain ⟨b',o',hA,hat,hi⟩:=node_get (HL.out.on NodeR.lasts HBW.out) hn;obtain ⟨rfl,rfl⟩:=aiq hA;have HS:=kp (stands_any hat hi (k:Int));have HSu:=kp (standsTo_succ hn);have HSt:=kp (fun hs=>standsTo_stop hn hs);clear hat hi hn
     cases hst:standsN n k with
     | true =>
      rw [hst] at HS;have HQ:=kp (show standsTo t (k+1)=true by rw [HSu.out,HTo.out,hst];rfl);clear hst;go_wp2_with fail
      refine HS.out.mono ?_;rintro e w5 ⟨rfl,hb5⟩;have HB5:=kp (HB.out.trans (hb5.mono HB.out.size));clear hb5 q0 qf;go_wp2_with fail
      go_roundw
      case rel=>exact⟨k+1,by omega,by go_num,HQ.out,HB5.out⟩
      case measure=>simp [intOf];omega
     | false =>
      have HR:=kp (show ce=2 by rw [HC.out,HSt.out hst];rfl);rw [hst] at HS;clear hst;go_wp2_with fail
      refine HS.out.mono ?_;rintro e w5 ⟨rfl,hb5⟩;have HB5:=kp (HBW.out.trans (hb5.mono HBW.out.size));clear hb5 q0 qf;go_wp2_with fail
      go_ret;exact⟨ret_int HR.out.symm,HB5.out⟩
    ·obtain rfl:k=t.length:=by omega
     have HPl:=kp (places_any (c:=c) (HL.out.on NodeR.lasts HBW.out) (by omega));unfold PlacesPost at HPl;replace HC:=kp (show ce=if decide t.Nodup then 0 else 2 by rw [HC.out,HTo.out];rfl);generalize decide t.Nodup=nd at *;go_wp2_with fail
     refine HPl.out.mono ?_;rintro e w5 ⟨bm,rfl,hm,hb5,hbm⟩;have HB5:=kp (HBW.out.trans (hb5.mono HBW.out.size));clear hb5 q0 qf hm hbm
     cases nd with
     | true =>
      go_wp2_with fail
      go_ret;exact⟨ret_int (by rw [HC.out];rfl),HB5.out⟩
     | false =>
      go_wp2_with fail
      go_ret;exact⟨ret_int (by rw [HC.out];rfl),HB5.out⟩
end El
end Go.Proofs.YtpmdcckapddchaaGreatDoor
