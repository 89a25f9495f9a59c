import Derived.Test.YtpmdcckapddchaaGreatDoorShort
import Derived.Test.YtpmdcckapddchaaGreatDoorMq
import Derived.Test.YtpmdcckapddchaaGreatDoorMb
import Derived.Deep.RegionHeld3
/- merged by wip/merge.py from: TyOp -/
set_option maxRecDepth 100000
set_option maxHeartbeats 51200000
namespace Go.Proofs.YtpmdcckapddchaaGreatDoor
namespace El
open Go.RowKit Dt Sg
def alikeI (l:List Int):Bool:=l.all fun x=>x == l.getD 0 0
theorem alikeI_stop {l:List Int} {k:Nat} (hk:k < l.length) (h:l.getD k 0≠l.getD 0 0):alikeI l=false:=by
 unfold alikeI;rw [List.all_eq_false];refine⟨l.getD k 0,?_,by simpa using h⟩;rw [List.getD_eq_getElem?_getD,gqe hk];exact List.getElem_mem hk
theorem alikeI_all {l:List Int} (h:∀ k,k < l.length->l.getD k 0=l.getD 0 0):alikeI l=true:=by
 unfold alikeI;rw [List.all_eq_true];intro x hx;obtain ⟨k,hk⟩:=List.getElem?_of_mem hx;have h1:=h k (gqs hk).1;rw [List.getD_eq_getElem?_getD,hk] at h1
 simpa using h1
theorem alike_any {w:World} {A:Option Addr} {l:List Int} (c:Nat) (h:Cells w A (l.map (Value.int .i64))) (hl:l.length<=1000000) :
  Calls Tryz.prog 115 #[.slice A l.length c] w fun e w'=>e=.returned (.bool (alikeI l))/\w=w':=by
 have HC:=kp h;have HSt:=kp (fun k hk hne=>alikeI_stop (l:=l) (k:=k) hk hne);have HAl:=kp (fun hh=>alikeI_all (l:=l) hh);clear h;generalize alikeI l=al at *
 go_enter Tryz.func115,Tryz.ntmps115
 go_wp2_with fail
 go_loop [7] (fun v=>∃ k:Nat,k<=l.length/\v=.int .i64 k/\∀ j,j < k->l.getD j 0=l.getD 0 0) (fun v=>l.length - (intOf v).toNat)
 case atStart=>exact⟨0,Nat.zero_le _,rfl,fun j hj=>by omega⟩
 case round =>
  obtain ⟨k,hk,rfl,hto⟩:=hrel;have HTo:=kp hto;clear hto
  by_cases hlt:k < l.length
  ·have hlt2:(k:Int) < (l.length:Int):=by omega
   have h0l:0 < l.length:=by omega
   obtain ⟨b,o,rfl,p0⟩:=cells_get HC.out h0l;obtain ⟨b',o',hA,pk⟩:=cells_get HC.out hlt;obtain ⟨rfl,rfl⟩:=aiq hA;rw [Nat.add_zero] at p0;have HSk:=kp (fun hne=>HSt.out k hlt hne)
   have HTk:=kp (show l.getD k 0=l.getD 0 0->∀ j,j < k+1->l.getD j 0=l.getD 0 0 from fun he j hj=>by
    by_cases h:j < k
    ·exact HTo.out j h
    ·obtain rfl:j=k:=by omega
     exact he)
   generalize l.getD k 0=x at *;generalize l.getD 0 0=y at *
   by_cases hq:x=y
   ·have hq':(x != y)=false:=by simp [hq]
    have HQ:=kp (HTk.out hq);clear hq;go_wp2_with fail
    go_round
    case rel=>exact⟨k+1,by omega,by go_num,HQ.out⟩
    case measure=>simp [intOf];omega
   ·have hq':(x != y)=true:=by simp [hq]
    have HQ:=kp (HSk.out hq);clear hq;go_wp2_with fail
    go_ret;exact⟨ret_bool HQ.out.symm,rfl⟩
  ·obtain rfl:k=l.length:=by omega
   have HQ:=kp (HAl.out HTo.out);go_wp2_with fail
   go_ret;exact⟨ret_bool HQ.out.symm,rfl⟩
def sameL (op:Int) (l:List Int):List Int:=if op=7 then l.tail else l
def opProg (op:Int) (l:List Int):Int × Int :=
 if ruleK op=false\/(l.length:Int)≠(ruleL op).1 then(0,2)
 else if op=7/\l.getD 0 0≠0 then(0,33)
 else if l.any (fun x=>decide (x < 0)) then(0,33)
 else if alikeI (sameL op l)=false then(0,33)
 else if 0 < (sameL op l).length/\(ruleL op).2.1≠-1/\(sameL op l).getD 0 0≠(ruleL op).2.1 then(0,33)
 else if(ruleL op).2.2=-1 then((sameL op l).getD 0 0,0) else((ruleL op).2.2,0)
theorem opS_len {op:Int} {l:List Int} {s:Int} (h:opS op l=some s):ruleK op=true/\(l.length:Int)=(ruleL op).1:=by
 by_cases ho:0<=op/\op<=12
 ·refine⟨decide_eq_true ho,?_⟩;obtain ⟨h1,h2⟩:=ho;have hcase:op=0\/op=1\/op=2\/op=3\/op=4\/op=5\/op=6\/op=7\/op=8\/op=9\/op=10\/op=11\/op=12:=by omega
  rcases hcase with rfl | rfl | rfl | rfl | rfl | rfl | rfl | rfl | rfl | rfl | rfl | rfl | rfl <;> rcases l with _ | ⟨a,_ | ⟨b,_ | ⟨d,_ | ⟨e,l⟩⟩⟩⟩ <;> first | rfl | (simp [opS] at h;done)
 ·unfold opS at h;rw [if_neg (by omega),if_neg (by omega),if_neg (by omega),if_neg (by omega),if_neg (by omega),if_neg (by omega),if_neg (by omega),if_neg (by omega)] at h
  cases h
theorem opProg_some {op:Int} {l:List Int}:(∀ s,opS op l=some s->opProg op l=(s,0))/\(opS op l=none->(opProg op l).1=0/\((opProg op l).2=2\/(opProg op l).2=33)):=by
 by_cases hk:ruleK op=false\/(l.length:Int)≠(ruleL op).1
 ·constructor
  ·intro s h;obtain ⟨h1,h2⟩:=opS_len h;rcases hk with h3 | h3
   ·rw [h1] at h3;cases h3
   ·exact absurd h2 h3
  ·intro _;unfold opProg;rw [if_pos hk];exact⟨rfl,.inl rfl⟩
 ·have hk1:ruleK op=true:=by cases h:ruleK op with | true=>rfl | false=>exact absurd (.inl h) hk
  have hk2:(l.length:Int)=(ruleL op).1:=Decidable.byContradiction fun h=>hk (.inr h);unfold ruleK at hk1;have ho:=of_decide_eq_true hk1;unfold opProg;rw [if_neg hk];clear hk hk1;have hcase:op=0\/op=1\/op=2\/op=3\/op=4\/op=5\/op=6\/op=7\/op=8\/op=9\/op=10\/op=11\/op=12:=by omega
  rcases hcase with rfl | rfl | rfl | rfl | rfl | rfl | rfl | rfl | rfl | rfl | rfl | rfl | rfl;all_goals rcases l with _ | ⟨a,_ | ⟨b,_ | ⟨d,_ | ⟨e,l⟩⟩⟩⟩
  all_goals first | (exfalso;simp [ruleL] at hk2;done) | (exfalso;simp [ruleL] at hk2;omega) | clear hk2
  all_goals clear ho
  all_goals try (simp [opS,ruleL,sameL,alikeI];done)
  all_goals
   simp [opS,ruleL,sameL,alikeI]
   constructor
   ·intros
    (repeat' split) <;> first | omega | (exfalso;omega) | (simp only [Prod.mk.injEq];omega) | (simp;done) | (simp;omega)
   ·intros
    (repeat' split) <;> first | omega | (exfalso;omega) | (simp only [Prod.mk.injEq];omega) | (simp;done) | (simp;omega)
def OpPost (op:Int) (l:List Int) (w:World) (e:Ending) (w':World):Prop:=e=.returned (.tuple #[.int .i64 (opProg op l).1,.int .i64 (opProg op l).2])/\Below w.heap.size w w'
theorem opPost {op:Int} {l:List Int} {w w':World} {a b:Int} (h:opProg op l=(a,b)) (hb:Below w.heap.size w w'):OpPost op l w (.returned (.tuple #[.int .i64 a,.int .i64 b])) w':=by
 unfold OpPost;rw [h];exact⟨rfl,hb⟩
theorem any_neg {l:List Int}:(l.any fun x=>decide (x < 0))=false ↔ ∀ k,k < l.length->¬ l.getD k 0 < 0:=by
 rw [List.any_eq_false]
 constructor
 ·intro h k hk;have:=h (l.getD k 0) (by rw [List.getD_eq_getElem?_getD,gqe hk];exact List.getElem_mem hk)
  simpa using this
 ·intro h x hx;obtain ⟨k,hk⟩:=List.getElem?_of_mem hx;have:=h k (gqs hk).1;rw [List.getD_eq_getElem?_getD,hk] at this
  simpa using this
theorem cells_tail {w:World} {b o:Nat} {l:List Int} (h:Cells w (some ⟨b,o,none⟩) (l.map (Value.int .i64))):Cells w (some ⟨b,o+1,none⟩) (l.tail.map (Value.int .i64)):=by
 rcases h with h | ⟨b',o',hA,hlt,hc⟩
 ·left
  have:l=[]:=by simpa using h
  rw [this];rfl
 ·obtain ⟨rfl,rfl⟩:=aiq hA;refine .inr ⟨b,o+1,rfl,hlt,fun j u hu=>?_⟩;rw [show o+1+j=o+(j+1) by omega];refine hc (j+1) u ?_;rw [List.getElem?_map] at hu ⊢;rw [← List.getElem?_tail];exact hu
theorem tyop_any {w:World} {A:Option Addr} {l:List Int} {c:Nat} (op:Int) (hop:I8 op) (h:Cells w A (l.map (Value.int .i64))) (hl:l.length<=1000000) (hc:l.length<=c) (hcm:c<=maxLen) :
  Calls Tryz.prog 72 #[.int .i8 op,.slice A l.length c] w (OpPost op l w):=by
 have HP:=kp (fun a b w' h hb=>opPost (op:=op) (l:=l) (w:=w) (w':=w') (a:=a) (b:=b) h hb);have HC:=kp h;have HCc:=kp hc;have HR:=kp (rules_any op hop w)
 have HOp:=kp (show opProg op l=if ruleK op=false\/(l.length:Int)≠(ruleL op).1 then(0,2)
  else if op=7/\l.getD 0 0≠0 then(0,33)
  else if l.any (fun x=>decide (x < 0)) then(0,33)
  else if alikeI (sameL op l)=false then(0,33)
  else if 0 < (sameL op l).length/\(ruleL op).2.1≠-1/\(sameL op l).getD 0 0≠(ruleL op).2.1 then(0,33)
  else if(ruleL op).2.2=-1 then((sameL op l).getD 0 0,0) else((ruleL op).2.2,0) from rfl)
 have HR7:=kp (show op=7->(ruleL op).1=3 from fun e=>by rw [e];rfl)
 have HRR:=kp (show(ruleL op).2.2=-1->op=7 from fun e=>by
  unfold ruleL at e
  repeat' split at e
  all_goals first | assumption | (exfalso;revert e;decide))
 unfold maxLen at hcm;generalize OpPost op l w=PP at *;generalize opProg op l=res at *;generalize (ruleL op).1=rn at *;generalize (ruleL op).2.1=ra at *;generalize (ruleL op).2.2=rr at *;generalize ruleK op=rk at *;clear h hc
 go_enter Tryz.func72,Tryz.ntmps72
 go_wp2_with fail
 refine HR.out.mono ?_;rintro e w1 ⟨rfl,hb1⟩;have RB:=kp (Bk.new w1 (.cells #[.int .i64 rn,.int .i64 ra,.int .i64 rr,.bool rk] 180));have B2:=kp (hb1.alloc hb1.size (.cells #[.int .i64 rn,.int .i64 ra,.int .i64 rr,.bool rk] 180));clear hb1 HR;go_upto_region 2 with fail
 generalize w1.heap.size=rb at *;generalize w1.alloc (.cells #[.int .i64 rn,.int .i64 ra,.int .i64 rr,.bool rk] 180)=w2 at *;have HC2:=kp (HC.out.on B2.out);obtain ⟨r0,r1,r2,r3,rf⟩:=Bk.c4 RB.out
 cases rk with
 | false =>
  have HE:=kp (show res=(0,2) by rw [HOp.out,if_pos (.inl rfl)]);go_wp2_with fail
  exact HP.out _ _ _ HE.out B2.out
 | true =>
  by_cases hn:(l.length:Int)=rn
  ·have hn':((l.length:Int) != rn)=false:=by simp [hn]
   replace HOp:=kp (HOp.out.trans (if_neg (by simp [hn])));have HN:=kp hn;clear hn
   by_cases h7:op=7
   ·have hl3:l.length=3:=by have:=HR7.out h7;have:=HN.out;omega
    have h7':(op == 7)=true:=by simp [h7]
    obtain ⟨b,o,rfl,p0⟩:=cells_get HC2.out (show 0 < l.length by omega);rw [Nat.add_zero] at p0;have hl3':(l.length:Int)=3:=by omega
    by_cases hz:l.getD 0 0=0
    ·obtain ⟨l',hl'⟩:∃ l',l'=l.tail:=⟨_,rfl⟩
     replace HOp:=kp (show res=if l.any (fun x=>decide (x < 0)) then(0,33) else if alikeI l'=false then(0,33) else if 0 < l'.length/\ra≠-1/\l'.getD 0 0≠ra then(0,33) else if rr=-1 then(l'.getD 0 0,0) else(rr,0) by
      rw [HOp.out,if_neg (by rintro ⟨_,h⟩;exact h hz),show sameL op l=l' by unfold sameL;rw [if_pos h7,hl']])
     have HCs:=kp (show Cells w2 (some ⟨b,o+1,none⟩) (l'.map (Value.int .i64)) by rw [hl'];exact cells_tail HC2.out);have hl2:l'.length=2:=by rw [hl',List.length_tail];omega
     have hz':(l.getD 0 0 != 0)=false:=by rw [hz];rfl
     have HRr:=kp (show l'.length=0->¬ rr=-1 from fun h=>by omega);have HZ:=kp hl';generalize l.getD 0 0=z at *;clear hz h7 hl';have HAl:=kp (fun W (hW:Below w2.heap.size w2 W)=>alike_any (w:=W) (c - 1) (HCs.out.on hW) (by omega));rw [hl2] at HAl;have hc1:¬ c=1:=by have:=HCc.out;omega
     have hc2:1<=c:=by have:=HCc.out;omega
     go_wp2_with fail
     go_loop [33] (fun v=>∃ k:Nat,k<=l.length/\v=.int .i64 k/\∀ j,j < k->¬ l.getD j 0 < 0) (fun v=>l.length - (intOf v).toNat)
     case atStart=>exact⟨0,Nat.zero_le _,rfl,fun j hj=>by omega⟩
     case round =>
      obtain ⟨k,hk,rfl,hto⟩:=hrel;have HTo:=kp hto;clear hto
      by_cases hlt:k < l.length
      ·have hlt2:(k:Int) < (l.length:Int):=by omega
       obtain ⟨bk,ok,hA,pk⟩:=cells_get HC2.out hlt;try subst hA
       try (simp only [Option.some.injEq,Addr.mk.injEq,and_true] at hA;obtain ⟨rfl,rfl⟩:=hA)
       have HTk:=kp (show ¬ l.getD k 0 < 0->∀ j,j < k+1->¬ l.getD j 0 < 0 from fun he j hj=>by
        by_cases h:j < k
        ·exact HTo.out j h
        ·obtain rfl:j=k:=by omega
         exact he)
       have HNk:=kp (show l.getD k 0 < 0->l.any (fun x=>decide (x < 0))=true from fun he=>by
        cases hq:l.any (fun x=>decide (x < 0)) with
        | true=>rfl
        | false=>exact absurd he (any_neg.1 hq k hlt))
       generalize l.getD k 0=x at *
       by_cases hx:x < 0
       ·have HE:=kp (show res=(0,33) by rw [HOp.out,HNk.out hx];rfl);go_wp2_with fail
        exact HP.out _ _ _ HE.out B2.out
       ·have HQ:=kp (HTk.out hx);replace hx:=dfq hx;go_wp2_with fail
        go_round
        case rel=>exact⟨k+1,by omega,by go_num,HQ.out⟩
        case measure=>simp [intOf];omega
      ·obtain rfl:k=l.length:=by omega
       replace HOp:=kp (show res=if alikeI l'=false then(0,33)
        else if 0 < l'.length/\ra≠-1/\l'.getD 0 0≠ra then(0,33)
        else if rr=-1 then(l'.getD 0 0,0) else(rr,0) by rw [HOp.out,any_neg.2 HTo.out];rfl)
       clear HTo;have HL':=kp HCs.out;have B0:=kp (brq w2).drew;have B3:=kp (B2.out.trans (B0.out.mono B2.out.size));have RB3:=kp (Bk.on RB.out B0.out);have HC3:=kp (HCs.out.on B0.out);clear r0 r1 r2 r3 rf;go_wp2_with fail
       refine wp_region_held_drew (S:=fun W=>Below w2.heap.size w2 W) (by kernel_rfl) (B0.out) (fun hHeld=>?_);refine tk 0 (v:=?_) ?_ ?_;rotate_left
       ·(intro w hSw;go_simp;try with_reducible rfl)
       try simp only [pt]
       cases hal:alikeI l' with
       | false =>
        have HE:=kp (show res=(0,33) by rw [HOp.out,hal];rfl);refine rd 1 fun K hK=>?_;go_simp
        go_wp2_with (go_at_call 115;refine(HAl.out _ B0.out).mono ?_;rw [hal];rintro e W1 ⟨rfl,rfl⟩)
        refine hK.out _ _ (B0.out) (fun hHeld=>?_);clear hK K;try simp only [pt]
        refine plz [2,3] ?_;iterate 2 (refine tnz (v:=?_) ?_ ?_;rotate_left;(focus (intro w hSw;go_simp;try with_reducible rfl));try simp only [pt])
        refine pzz ?_;refine sk 4 ?_;try simp only [pt]
        refine sk 5 ?_;try simp only [pt]
        refine sk 6 ?_;try simp only [pt]
        refine sk 7 ?_;try simp only [pt]
        refine sk 8 ?_;try simp only [pt]
        refine sk 9 ?_;try simp only [pt]
        refine sk 10 ?_;try simp only [pt]
        refine sk 11 ?_;try simp only [pt]
        refine sk 12 ?_;try simp only [pt]
        refine sk 13 ?_;try simp only [pt]
        refine sk 14 ?_;try simp only [pt]
        refine sk 15 ?_;try simp only [pt]
        refine sk 16 ?_;try simp only [pt]
        refine sk 17 ?_;try simp only [pt]
        refine sk 18 ?_;try simp only [pt]
        refine sk 19 ?_;try simp only [pt]
        refine tk 20 (v:=?_) ?_ ?_;rotate_left
        ·(intro w hSw;go_simp;try with_reducible rfl)
        try simp only [pt]
        refine dnz ?_;clear hHeld;go_wp2_with fail
        exact HP.out _ _ _ HE.out B3.out
       | true =>
        replace HOp:=kp (show res=if 0 < l'.length/\ra≠-1/\l'.getD 0 0≠ra then(0,33)
         else if rr=-1 then(l'.getD 0 0,0) else(rr,0) by rw [HOp.out,hal];rfl)
        refine rd 1 fun K hK=>?_;go_simp
        go_wp2_with (go_at_call 115;refine(HAl.out _ B0.out).mono ?_;rw [hal];rintro e W1 ⟨rfl,rfl⟩)
        refine hK.out _ _ (B0.out) (fun hHeld=>?_);clear hK K;try simp only [pt]
        clear hal
        by_cases h0:0 < l'.length
        ·have h0':(0:Int) < (l'.length:Int):=by omega
         obtain ⟨b0,o0,hA0,p0⟩:=cells_get HC3.out h0;rw [Nat.add_zero] at p0
         have HP0:=kp (fun W (hW:Below w2.heap.size w2 W)=>show W.cell? ⟨b0,o0,none⟩=some (.int .i64 (l'.getD 0 0)) by
          obtain ⟨b1,o1,hA1,p1⟩:=cells_get (HCs.out.on hW) h0;rw [hA0] at hA1;obtain ⟨rfl,rfl⟩:=aiq hA1
          rwa [Nat.add_zero] at p1)
         clear p0;try subst hA0
         try (simp only [Option.some.injEq,Addr.mk.injEq,and_true] at hA0;obtain ⟨rfl,rfl⟩:=hA0)
         generalize l'.getD 0 0=y at *;refine plz [2,3,4,5,6,7] ?_;iterate 6 (refine tnz (v:=?_) ?_ ?_;rotate_left;(focus (intro w hSw;go_simp;try with_reducible rfl));try simp only [pt])
         refine pzz ?_
         by_cases h1:ra=-1
         ·replace HOp:=kp (show res=if rr=-1 then(y,0) else(rr,0) by rw [HOp.out,if_neg (by omega)]);subst h1;refine plz [8,9,10,11,12] ?_;iterate 5 (refine tnz (v:=?_) ?_ ?_;rotate_left;(focus first | ((intro w hSw;go_simp;try with_reducible rfl);done) | ((intro w hSw;(obtain ⟨r0,r1,r2,r3,rf⟩:=Bk.c4 (Bk.on RB.out hSw);go_simp;try with_reducible rfl));done));try simp only [pt])
          refine pzz ?_;refine sk 13 ?_;try simp only [pt]
          refine sk 14 ?_;try simp only [pt]
          refine sk 15 ?_;try simp only [pt]
          refine sk 16 ?_;try simp only [pt]
          refine sk 17 ?_;try simp only [pt]
          refine sk 18 ?_;try simp only [pt]
          refine plz [19,20] ?_;iterate 2 (refine tnz (v:=?_) ?_ ?_;rotate_left;(focus (intro w hSw;go_simp;try with_reducible rfl));try simp only [pt])
          refine pzz ?_;refine dnz ?_;clear hHeld;obtain ⟨r0,r1,r2,r3,rf⟩:=Bk.c4 RB3.out;have p0:=HP0.out _ B0.out
          by_cases h3:rr=-1
          ·have HE:=kp (show res=(y,0) by rw [HOp.out,if_pos h3]);subst h3;go_wp2_with fail
           exact HP.out _ _ _ HE.out B3.out
          ·have HE:=kp (show res=(rr,0) by rw [HOp.out,if_neg h3]);have h3':(rr == -1)=false:=beq_eq_false_iff_ne.2 h3;go_wp2_with fail
           exact HP.out _ _ _ HE.out B3.out
         ·have h1':(ra != -1)=true:=by rw [bne_iff_ne];exact h1
          refine plz [8,9,10,11,12,13,14,15,16,17] ?_;iterate 10 (refine tnz (v:=?_) ?_ ?_;rotate_left;(focus first | ((intro w hSw;go_simp;try with_reducible rfl);done) | ((intro w hSw;(obtain ⟨r0,r1,r2,r3,rf⟩:=Bk.c4 (Bk.on RB.out hSw);go_simp;try with_reducible rfl));done) | ((intro w hSw;(have p0:=HP0.out _ hSw;go_simp;try with_reducible rfl));done));try simp only [pt])
          refine pzz ?_
          by_cases h2:y=ra
          ·have h2':(y != ra)=false:=by simp [h2]
           replace HOp:=kp (show res=if rr=-1 then(y,0) else(rr,0) by rw [HOp.out,if_neg (by rintro ⟨_,_,h⟩;exact h h2)]);clear h2;refine plz [18,19,20] ?_;iterate 3 (refine tnz (v:=?_) ?_ ?_;rotate_left;(focus (intro w hSw;go_simp;try with_reducible rfl));try simp only [pt])
           refine pzz ?_;refine dnz ?_;clear hHeld;obtain ⟨r0,r1,r2,r3,rf⟩:=Bk.c4 RB3.out;have p0:=HP0.out _ B0.out
           by_cases h3:rr=-1
           ·have HE:=kp (show res=(y,0) by rw [HOp.out,if_pos h3]);subst h3;go_wp2_with fail
            exact HP.out _ _ _ HE.out B3.out
           ·have HE:=kp (show res=(rr,0) by rw [HOp.out,if_neg h3]);have h3':(rr == -1)=false:=beq_eq_false_iff_ne.2 h3;go_wp2_with fail
            exact HP.out _ _ _ HE.out B3.out
          ·have h2':(y != ra)=true:=by simp [h2]
           have HE:=kp (show res=(0,33) by rw [HOp.out,if_pos ⟨h0,h1,h2⟩]);clear h2;refine plz [18,19,20] ?_;iterate 3 (refine tnz (v:=?_) ?_ ?_;rotate_left;(focus (intro w hSw;go_simp;try with_reducible rfl));try simp only [pt])
           refine pzz ?_;refine dnz ?_;clear hHeld;go_wp2_with fail
           exact HP.out _ _ _ HE.out B3.out
        ·skip
         exfalso;omega
    ·have hz':(l.getD 0 0 != 0)=true:=by rw [bne_iff_ne];exact hz
     have HE:=kp (show res=(0,33) by rw [HOp.out,if_pos ⟨h7,hz⟩]);generalize l.getD 0 0=z at *;clear hz h7;go_wp2_with fail
     exact HP.out _ _ _ HE.out B2.out
   ·have h7':(op == 7)=false:=beq_eq_false_iff_ne.2 h7
    replace HOp:=kp (show res=if l.any (fun x=>decide (x < 0)) then(0,33) else if alikeI l=false then(0,33) else if 0 < l.length/\ra≠-1/\l.getD 0 0≠ra then(0,33) else if rr=-1 then(l.getD 0 0,0) else(rr,0) by
     rw [HOp.out,if_neg (by rintro ⟨h,_⟩;exact h7 h),show sameL op l=l by unfold sameL;rw [if_neg h7]])
    have HCs:=HC2;have HRr:=kp (show l.length=0->¬ rr=-1 from fun _ e=>h7 (HRR.out e));clear h7;have HAl:=kp (fun W (hW:Below w2.heap.size w2 W)=>alike_any (w:=W) c (HCs.out.on hW) (by omega));go_wp2_with fail
    go_loop [33] (fun v=>∃ k:Nat,k<=l.length/\v=.int .i64 k/\∀ j,j < k->¬ l.getD j 0 < 0) (fun v=>l.length - (intOf v).toNat)
    case atStart=>exact⟨0,Nat.zero_le _,rfl,fun j hj=>by omega⟩
    case round =>
     obtain ⟨k,hk,rfl,hto⟩:=hrel;have HTo:=kp hto;clear hto
     by_cases hlt:k < l.length
     ·have hlt2:(k:Int) < (l.length:Int):=by omega
      obtain ⟨bk,ok,hA,pk⟩:=cells_get HC2.out hlt;try subst hA
      try (simp only [Option.some.injEq,Addr.mk.injEq,and_true] at hA;obtain ⟨rfl,rfl⟩:=hA)
      have HTk:=kp (show ¬ l.getD k 0 < 0->∀ j,j < k+1->¬ l.getD j 0 < 0 from fun he j hj=>by
       by_cases h:j < k
       ·exact HTo.out j h
       ·obtain rfl:j=k:=by omega
        exact he)
      have HNk:=kp (show l.getD k 0 < 0->l.any (fun x=>decide (x < 0))=true from fun he=>by
       cases hq:l.any (fun x=>decide (x < 0)) with
       | true=>rfl
       | false=>exact absurd he (any_neg.1 hq k hlt))
      generalize l.getD k 0=x at *
      by_cases hx:x < 0
      ·have HE:=kp (show res=(0,33) by rw [HOp.out,HNk.out hx];rfl);go_wp2_with fail
       exact HP.out _ _ _ HE.out B2.out
      ·have HQ:=kp (HTk.out hx);replace hx:=dfq hx;go_wp2_with fail
       go_round
       case rel=>exact⟨k+1,by omega,by go_num,HQ.out⟩
       case measure=>simp [intOf];omega
     ·obtain rfl:k=l.length:=by omega
      replace HOp:=kp (show res=if alikeI l=false then(0,33)
       else if 0 < l.length/\ra≠-1/\l.getD 0 0≠ra then(0,33)
       else if rr=-1 then(l.getD 0 0,0) else(rr,0) by rw [HOp.out,any_neg.2 HTo.out];rfl)
      clear HTo;have HL':=kp HCs.out;have B0:=kp (brq w2).drew;have B3:=kp (B2.out.trans (B0.out.mono B2.out.size));have RB3:=kp (Bk.on RB.out B0.out);have HC3:=kp (HCs.out.on B0.out);clear r0 r1 r2 r3 rf;go_wp2_with fail
      refine wp_region_held_drew (S:=fun W=>Below w2.heap.size w2 W) (by kernel_rfl) (B0.out) (fun hHeld=>?_);refine tk 0 (v:=?_) ?_ ?_;rotate_left
      ·(intro w hSw;go_simp;try with_reducible rfl)
      try simp only [pt]
      cases hal:alikeI l with
      | false =>
       have HE:=kp (show res=(0,33) by rw [HOp.out,hal];rfl);refine rd 1 fun K hK=>?_;go_simp
       go_wp2_with (go_at_call 115;refine(HAl.out _ B0.out).mono ?_;rw [hal];rintro e W1 ⟨rfl,rfl⟩)
       refine hK.out _ _ (B0.out) (fun hHeld=>?_);clear hK K;try simp only [pt]
       refine plz [2,3] ?_;iterate 2 (refine tnz (v:=?_) ?_ ?_;rotate_left;(focus (intro w hSw;go_simp;try with_reducible rfl));try simp only [pt])
       refine pzz ?_;refine sk 4 ?_;try simp only [pt]
       refine sk 5 ?_;try simp only [pt]
       refine sk 6 ?_;try simp only [pt]
       refine sk 7 ?_;try simp only [pt]
       refine sk 8 ?_;try simp only [pt]
       refine sk 9 ?_;try simp only [pt]
       refine sk 10 ?_;try simp only [pt]
       refine sk 11 ?_;try simp only [pt]
       refine sk 12 ?_;try simp only [pt]
       refine sk 13 ?_;try simp only [pt]
       refine sk 14 ?_;try simp only [pt]
       refine sk 15 ?_;try simp only [pt]
       refine sk 16 ?_;try simp only [pt]
       refine sk 17 ?_;try simp only [pt]
       refine sk 18 ?_;try simp only [pt]
       refine sk 19 ?_;try simp only [pt]
       refine tk 20 (v:=?_) ?_ ?_;rotate_left
       ·(intro w hSw;go_simp;try with_reducible rfl)
       try simp only [pt]
       refine dnz ?_;clear hHeld;go_wp2_with fail
       exact HP.out _ _ _ HE.out B3.out
      | true =>
       replace HOp:=kp (show res=if 0 < l.length/\ra≠-1/\l.getD 0 0≠ra then(0,33)
        else if rr=-1 then(l.getD 0 0,0) else(rr,0) by rw [HOp.out,hal];rfl)
       refine rd 1 fun K hK=>?_;go_simp
       go_wp2_with (go_at_call 115;refine(HAl.out _ B0.out).mono ?_;rw [hal];rintro e W1 ⟨rfl,rfl⟩)
       refine hK.out _ _ (B0.out) (fun hHeld=>?_);clear hK K;try simp only [pt]
       clear hal
       by_cases h0:0 < l.length
       ·have h0':(0:Int) < (l.length:Int):=by omega
        obtain ⟨b0,o0,hA0,p0⟩:=cells_get HC3.out h0;rw [Nat.add_zero] at p0
        have HP0:=kp (fun W (hW:Below w2.heap.size w2 W)=>show W.cell? ⟨b0,o0,none⟩=some (.int .i64 (l.getD 0 0)) by
         obtain ⟨b1,o1,hA1,p1⟩:=cells_get (HCs.out.on hW) h0;rw [hA0] at hA1;obtain ⟨rfl,rfl⟩:=aiq hA1
         rwa [Nat.add_zero] at p1)
        clear p0;try subst hA0
        try (simp only [Option.some.injEq,Addr.mk.injEq,and_true] at hA0;obtain ⟨rfl,rfl⟩:=hA0)
        generalize l.getD 0 0=y at *;refine plz [2,3,4,5,6,7] ?_;iterate 6 (refine tnz (v:=?_) ?_ ?_;rotate_left;(focus (intro w hSw;go_simp;try with_reducible rfl));try simp only [pt])
        refine pzz ?_
        by_cases h1:ra=-1
        ·replace HOp:=kp (show res=if rr=-1 then(y,0) else(rr,0) by rw [HOp.out,if_neg (by omega)]);subst h1;refine plz [8,9,10,11,12] ?_;iterate 5 (refine tnz (v:=?_) ?_ ?_;rotate_left;(focus first | ((intro w hSw;go_simp;try with_reducible rfl);done) | ((intro w hSw;(obtain ⟨r0,r1,r2,r3,rf⟩:=Bk.c4 (Bk.on RB.out hSw);go_simp;try with_reducible rfl));done));try simp only [pt])
         refine pzz ?_;refine sk 13 ?_;try simp only [pt]
         refine sk 14 ?_;try simp only [pt]
         refine sk 15 ?_;try simp only [pt]
         refine sk 16 ?_;try simp only [pt]
         refine sk 17 ?_;try simp only [pt]
         refine sk 18 ?_;try simp only [pt]
         refine plz [19,20] ?_;iterate 2 (refine tnz (v:=?_) ?_ ?_;rotate_left;(focus (intro w hSw;go_simp;try with_reducible rfl));try simp only [pt])
         refine pzz ?_;refine dnz ?_;clear hHeld;obtain ⟨r0,r1,r2,r3,rf⟩:=Bk.c4 RB3.out;have p0:=HP0.out _ B0.out
         by_cases h3:rr=-1
         ·have HE:=kp (show res=(y,0) by rw [HOp.out,if_pos h3]);subst h3;go_wp2_with fail
          exact HP.out _ _ _ HE.out B3.out
         ·have HE:=kp (show res=(rr,0) by rw [HOp.out,if_neg h3]);have h3':(rr == -1)=false:=beq_eq_false_iff_ne.2 h3;go_wp2_with fail
          exact HP.out _ _ _ HE.out B3.out
        ·have h1':(ra != -1)=true:=by rw [bne_iff_ne];exact h1
         refine plz [8,9,10,11,12,13,14,15,16,17] ?_;iterate 10 (refine tnz (v:=?_) ?_ ?_;rotate_left;(focus first | ((intro w hSw;go_simp;try with_reducible rfl);done) | ((intro w hSw;(obtain ⟨r0,r1,r2,r3,rf⟩:=Bk.c4 (Bk.on RB.out hSw);go_simp;try with_reducible rfl));done) | ((intro w hSw;(have p0:=HP0.out _ hSw;go_simp;try with_reducible rfl));done));try simp only [pt])
         refine pzz ?_
         by_cases h2:y=ra
         ·have h2':(y != ra)=false:=by simp [h2]
          replace HOp:=kp (show res=if rr=-1 then(y,0) else(rr,0) by rw [HOp.out,if_neg (by rintro ⟨_,_,h⟩;exact h h2)]);clear h2;refine plz [18,19,20] ?_;iterate 3 (refine tnz (v:=?_) ?_ ?_;rotate_left;(focus (intro w hSw;go_simp;try with_reducible rfl));try simp only [pt])
          refine pzz ?_;refine dnz ?_;clear hHeld;obtain ⟨r0,r1,r2,r3,rf⟩:=Bk.c4 RB3.out;have p0:=HP0.out _ B0.out
          by_cases h3:rr=-1
          ·have HE:=kp (show res=(y,0) by rw [HOp.out,if_pos h3]);subst h3;go_wp2_with fail
           exact HP.out _ _ _ HE.out B3.out
          ·have HE:=kp (show res=(rr,0) by rw [HOp.out,if_neg h3]);have h3':(rr == -1)=false:=beq_eq_false_iff_ne.2 h3;go_wp2_with fail
           exact HP.out _ _ _ HE.out B3.out
         ·have h2':(y != ra)=true:=by simp [h2]
          have HE:=kp (show res=(0,33) by rw [HOp.out,if_pos ⟨h0,h1,h2⟩]);clear h2;refine plz [18,19,20] ?_;iterate 3 (refine tnz (v:=?_) ?_ ?_;rotate_left;(focus (intro w hSw;go_simp;try with_reducible rfl));try simp only [pt])
          refine pzz ?_;refine dnz ?_;clear hHeld;go_wp2_with fail
          exact HP.out _ _ _ HE.out B3.out
       ·skip;have hl0:l.length=0:=by omega
        have hy:l.getD 0 0=0:=by rw [List.length_eq_zero_iff.1 hl0];rfl
        replace HOp:=kp (show res=if rr=-1 then(0,0) else(rr,0) by rw [HOp.out,if_neg (by omega),hy]);have h0':decide ((0:Int) < (l.length:Int))=false:=dfq (by omega);refine plz [2,3,4,5,6,7] ?_;iterate 6 (refine tnz (v:=?_) ?_ ?_;rotate_left;(focus (intro w hSw;go_simp;try with_reducible rfl));try simp only [pt])
        refine pzz ?_;refine sk 8 ?_;try simp only [pt]
        refine sk 9 ?_;try simp only [pt]
        refine sk 10 ?_;try simp only [pt]
        refine plz [11,12] ?_;iterate 2 (refine tnz (v:=?_) ?_ ?_;rotate_left;(focus (intro w hSw;go_simp;try with_reducible rfl));try simp only [pt])
        refine pzz ?_;refine sk 13 ?_;try simp only [pt]
        refine sk 14 ?_;try simp only [pt]
        refine sk 15 ?_;try simp only [pt]
        refine sk 16 ?_;try simp only [pt]
        refine sk 17 ?_;try simp only [pt]
        refine sk 18 ?_;try simp only [pt]
        refine plz [19,20] ?_;iterate 2 (refine tnz (v:=?_) ?_ ?_;rotate_left;(focus (intro w hSw;go_simp;try with_reducible rfl));try simp only [pt])
        refine pzz ?_;refine dnz ?_;clear hHeld;obtain ⟨r0,r1,r2,r3,rf⟩:=Bk.c4 RB3.out;have h3:=HRr.out hl0;have h3':(rr == -1)=false:=beq_eq_false_iff_ne.2 h3;have HE:=kp (show res=(rr,0) by rw [HOp.out,if_neg h3]);go_wp2_with fail
        exact HP.out _ _ _ HE.out B3.out
  ·have hn':((l.length:Int) != rn)=true:=by simp [hn]
   have HE:=kp (show res=(0,2) by rw [HOp.out,if_pos (.inr hn)]);clear hn;go_wp2_with fail
   exact HP.out _ _ _ HE.out B2.out
end El
end Go.Proofs.YtpmdcckapddchaaGreatDoor
