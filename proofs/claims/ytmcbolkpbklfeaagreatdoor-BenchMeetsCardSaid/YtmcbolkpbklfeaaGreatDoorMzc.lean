import Derived.Test.YtmcbolkpbklfeaaGreatDoorShort
import Derived.Test.YtmcbolkpbklfeaaGreatDoorMza
import Derived.Test.YtmcbolkpbklfeaaGreatDoorMd
import Derived.Deep.RegionHeld3
import Derived.Test.YtmcbolkpbklfeaaGreatDoorMr
/- merged by wip/merge.py from: TyOp TyApp -/
set_option maxRecDepth 100000
set_option maxHeartbeats 51200000
namespace Go.Proofs.YtmcbolkpbklfeaaGreatDoor
namespace El
open Go.RowKit Dt Sg
def alikeI (l:List Int):Bool:=l.all fun x=>x == l.getD 0 0
theorem alikeI_stop {l:List Int} {k:Nat} (hk:k < l.length) (h:l.getD k 0≠l.getD 0 0):alikeI l=false:=by
 unfold alikeI;rw [List.all_eq_false];refine⟨l.getD k 0,?_,by simpa using h⟩;rw [List.getD_eq_getElem?_getD,gqe hk];exact List.getElem_mem hk
theorem alikeI_all {l:List Int} (h:∀ k,k < l.length->l.getD k 0=l.getD 0 0):alikeI l=true:=by
 unfold alikeI;rw [List.all_eq_true];intro x hx;obtain ⟨k,hk⟩:=List.getElem?_of_mem hx;have h1:=h k (gqs hk).1;rw [List.getD_eq_getElem?_getD,hk] at h1
 simpa using h1
theorem alike_any {w:World} {A:Option Addr} {l:List Int} (c:Nat) (h:Cells w A (l.map (Value.int .i64))) (hl:l.length<=1000000) :
  Calls Tryz.prog 309 #[.slice A l.length c] w fun e w'=>e=.returned (.bool (alikeI l))/\w=w':=by
 have HC:=kp h;have HSt:=kp (fun k hk hne=>alikeI_stop (l:=l) (k:=k) hk hne);have HAl:=kp (fun hh=>alikeI_all (l:=l) hh);clear h;generalize alikeI l=al at *
 go_enter Tryz.func309,Tryz.ntmps309
 go_wp2_with fail
 go_loop [7] (fun v=>∃ k:Nat,k<=l.length/\v=.int .i64 k/\∀ j,j < k->l.getD j 0=l.getD 0 0) (fun v=>l.length - (intOf v).toNat)
 case atStart=>exact⟨0,Nat.zero_le _,rfl,fun j hj=>by omega⟩
 case round =>
  obtain ⟨k,hk,rfl,hto⟩:=hrel;have HTo:=kp hto;clear hto
  by_cases hlt:k < l.length
  ·have hlt2:(k:Int) < (l.length:Int):=by omega
   have h0l:0 < l.length:=by omega
   obtain ⟨b,o,rfl,p0⟩:=cells_get HC.out h0l;obtain ⟨b',o',hA,pk⟩:=cells_get HC.out hlt;obtain ⟨rfl,rfl⟩:=aiq hA;rw [Nat.add_zero] at p0;have HSk:=kp (fun hne=>HSt.out k hlt hne)
   have HTk:=kp (show l.getD k 0=l.getD 0 0->∀ j,j < k+1->l.getD j 0=l.getD 0 0 from fun he j hj=>by
    by_cases h:j < k
    ·exact HTo.out j h
    ·obtain rfl:j=k:=by omega
     exact he)
   generalize l.getD k 0=x at *;generalize l.getD 0 0=y at *
   by_cases hq:x=y
   ·have hq':(x != y)=false:=by simp [hq]
    have HQ:=kp (HTk.out hq);clear hq;go_wp2_with fail
    go_round
    case rel=>exact⟨k+1,by omega,by go_num,HQ.out⟩
    case measure=>simp [intOf];omega
   ·have hq':(x != y)=true:=by simp [hq]
    have HQ:=kp (HSk.out hq);clear hq;go_wp2_with fail
    go_ret;exact⟨ret_bool HQ.out.symm,rfl⟩
  ·obtain rfl:k=l.length:=by omega
   have HQ:=kp (HAl.out HTo.out);go_wp2_with fail
   go_ret;exact⟨ret_bool HQ.out.symm,rfl⟩
def sameL (op:Int) (l:List Int):List Int:=if op=7 then l.tail else l
def opProg (op:Int) (l:List Int):Int × Int :=
 if ruleK op=false\/(l.length:Int)≠(ruleL op).1 then(0,2)
 else if op=7/\l.getD 0 0≠0 then(0,33)
 else if l.any (fun x=>decide (x < 0)) then(0,33)
 else if alikeI (sameL op l)=false then(0,33)
 else if 0 < (sameL op l).length/\(ruleL op).2.1≠-1/\(sameL op l).getD 0 0≠(ruleL op).2.1 then(0,33)
 else if(ruleL op).2.2=-1 then((sameL op l).getD 0 0,0) else((ruleL op).2.2,0)
def OpPost (op:Int) (l:List Int) (w:World) (e:Ending) (w':World):Prop:=e=.returned (.tuple #[.int .i64 (opProg op l).1,.int .i64 (opProg op l).2])/\Below w.heap.size w w'
theorem opPost {op:Int} {l:List Int} {w w':World} {a b:Int} (h:opProg op l=(a,b)) (hb:Below w.heap.size w w'):OpPost op l w (.returned (.tuple #[.int .i64 a,.int .i64 b])) w':=by
 unfold OpPost;rw [h];exact⟨rfl,hb⟩
theorem any_neg {l:List Int}:(l.any fun x=>decide (x < 0))=false ↔ ∀ k,k < l.length->¬ l.getD k 0 < 0:=by
 rw [List.any_eq_false]
 constructor
 ·intro h k hk;have:=h (l.getD k 0) (by rw [List.getD_eq_getElem?_getD,gqe hk];exact List.getElem_mem hk)
  simpa using this
 ·intro h x hx;obtain ⟨k,hk⟩:=List.getElem?_of_mem hx;have:=h k (gqs hk).1;rw [List.getD_eq_getElem?_getD,hk] at this
  simpa using this
theorem cells_tail {w:World} {b o:Nat} {l:List Int} (h:Cells w (some ⟨b,o,none⟩) (l.map (Value.int .i64))):Cells w (some ⟨b,o+1,none⟩) (l.tail.map (Value.int .i64)):=by
 rcases h with h | ⟨b',o',hA,hlt,hc⟩
 ·left
  have:l=[]:=by simpa using h
  rw [this];rfl
 ·obtain ⟨rfl,rfl⟩:=aiq hA;refine .inr ⟨b,o+1,rfl,hlt,fun j u hu=>?_⟩;rw [show o+1+j=o+(j+1) by omega];refine hc (j+1) u ?_;rw [List.getElem?_map] at hu ⊢;rw [← List.getElem?_tail];exact hu
theorem tyop_any {w:World} {A:Option Addr} {l:List Int} {c:Nat} (op:Int) (hop:I8 op) (h:Cells w A (l.map (Value.int .i64))) (hl:l.length<=1000000) (hc:l.length<=c) (hcm:c<=maxLen) :
  Calls Tryz.prog 237 #[.int .i8 op,.slice A l.length c] w (OpPost op l w):=by
 have HP:=kp (fun a b w' h hb=>opPost (op:=op) (l:=l) (w:=w) (w':=w') (a:=a) (b:=b) h hb);have HC:=kp h;have HCc:=kp hc;have HR:=kp (rules_any op hop w)
 have HOp:=kp (show opProg op l=if ruleK op=false\/(l.length:Int)≠(ruleL op).1 then(0,2)
  else if op=7/\l.getD 0 0≠0 then(0,33)
  else if l.any (fun x=>decide (x < 0)) then(0,33)
  else if alikeI (sameL op l)=false then(0,33)
  else if 0 < (sameL op l).length/\(ruleL op).2.1≠-1/\(sameL op l).getD 0 0≠(ruleL op).2.1 then(0,33)
  else if(ruleL op).2.2=-1 then((sameL op l).getD 0 0,0) else((ruleL op).2.2,0) from rfl)
 have HR7:=kp (show op=7->(ruleL op).1=3 from fun e=>by rw [e];rfl)
 have HRR:=kp (show(ruleL op).2.2=-1->op=7 from fun e=>by
  unfold ruleL at e
  repeat' split at e
  all_goals first | assumption | (exfalso;revert e;decide))
 unfold maxLen at hcm;generalize OpPost op l w=PP at *;generalize opProg op l=res at *;generalize (ruleL op).1=rn at *;generalize (ruleL op).2.1=ra at *;generalize (ruleL op).2.2=rr at *;generalize ruleK op=rk at *;clear h hc
 go_enter Tryz.func237,Tryz.ntmps237
 go_wp2_with fail
 refine HR.out.mono ?_;rintro e w1 ⟨rfl,hb1⟩;have RB:=kp (Bk.new w1 (.cells #[.int .i64 rn,.int .i64 ra,.int .i64 rr,.bool rk] 431));have B2:=kp (hb1.alloc hb1.size (.cells #[.int .i64 rn,.int .i64 ra,.int .i64 rr,.bool rk] 431));clear hb1 HR;go_upto_region 2 with fail
 generalize w1.heap.size=rb at *;generalize w1.alloc (.cells #[.int .i64 rn,.int .i64 ra,.int .i64 rr,.bool rk] 431)=w2 at *;have HC2:=kp (HC.out.on B2.out);obtain ⟨r0,r1,r2,r3,rf⟩:=Bk.c4 RB.out
 cases rk with
 | false =>
  have HE:=kp (show res=(0,2) by rw [HOp.out,if_pos (.inl rfl)]);go_wp2_with fail
  exact HP.out _ _ _ HE.out B2.out
 | true =>
  by_cases hn:(l.length:Int)=rn
  ·have hn':((l.length:Int) != rn)=false:=by simp [hn]
   replace HOp:=kp (HOp.out.trans (if_neg (by simp [hn])));have HN:=kp hn;clear hn
   by_cases h7:op=7
   ·have hl3:l.length=3:=by have:=HR7.out h7;have:=HN.out;omega
    have h7':(op == 7)=true:=by simp [h7]
    obtain ⟨b,o,rfl,p0⟩:=cells_get HC2.out (show 0 < l.length by omega);rw [Nat.add_zero] at p0;have hl3':(l.length:Int)=3:=by omega
    by_cases hz:l.getD 0 0=0
    ·obtain ⟨l',hl'⟩:∃ l',l'=l.tail:=⟨_,rfl⟩
     replace HOp:=kp (show res=if l.any (fun x=>decide (x < 0)) then(0,33) else if alikeI l'=false then(0,33) else if 0 < l'.length/\ra≠-1/\l'.getD 0 0≠ra then(0,33) else if rr=-1 then(l'.getD 0 0,0) else(rr,0) by
      rw [HOp.out,if_neg (by rintro ⟨_,h⟩;exact h hz),show sameL op l=l' by unfold sameL;rw [if_pos h7,hl']])
     have HCs:=kp (show Cells w2 (some ⟨b,o+1,none⟩) (l'.map (Value.int .i64)) by rw [hl'];exact cells_tail HC2.out);have hl2:l'.length=2:=by rw [hl',List.length_tail];omega
     have hz':(l.getD 0 0 != 0)=false:=by rw [hz];rfl
     have HRr:=kp (show l'.length=0->¬ rr=-1 from fun h=>by omega);have HZ:=kp hl';generalize l.getD 0 0=z at *;clear hz h7 hl';have HAl:=kp (fun W (hW:Below w2.heap.size w2 W)=>alike_any (w:=W) (c - 1) (HCs.out.on hW) (by omega));rw [hl2] at HAl;have hc1:¬ c=1:=by have:=HCc.out;omega
     have hc2:1<=c:=by have:=HCc.out;omega
     go_wp2_with fail
     go_loop [33] (fun v=>∃ k:Nat,k<=l.length/\v=.int .i64 k/\∀ j,j < k->¬ l.getD j 0 < 0) (fun v=>l.length - (intOf v).toNat)
     case atStart=>exact⟨0,Nat.zero_le _,rfl,fun j hj=>by omega⟩
     case round =>
      obtain ⟨k,hk,rfl,hto⟩:=hrel;have HTo:=kp hto;clear hto
      by_cases hlt:k < l.length
      ·have hlt2:(k:Int) < (l.length:Int):=by omega
       obtain ⟨bk,ok,hA,pk⟩:=cells_get HC2.out hlt;try subst hA
       try (simp only [Option.some.injEq,Addr.mk.injEq,and_true] at hA;obtain ⟨rfl,rfl⟩:=hA)
       have HTk:=kp (show ¬ l.getD k 0 < 0->∀ j,j < k+1->¬ l.getD j 0 < 0 from fun he j hj=>by
        by_cases h:j < k
        ·exact HTo.out j h
        ·obtain rfl:j=k:=by omega
         exact he)
       have HNk:=kp (show l.getD k 0 < 0->l.any (fun x=>decide (x < 0))=true from fun he=>by
        cases hq:l.any (fun x=>decide (x < 0)) with
        | true=>rfl
        | false=>exact absurd he (any_neg.1 hq k hlt))
       generalize l.getD k 0=x at *
       by_cases hx:x < 0
       ·have HE:=kp (show res=(0,33) by rw [HOp.out,HNk.out hx];rfl);go_wp2_with fail
        exact HP.out _ _ _ HE.out B2.out
       ·have HQ:=kp (HTk.out hx);replace hx:=dfq hx;go_wp2_with fail
        go_round
        case rel=>exact⟨k+1,by omega,by go_num,HQ.out⟩
        case measure=>simp [intOf];omega
      ·obtain rfl:k=l.length:=by omega
       replace HOp:=kp (show res=if alikeI l'=false then(0,33)
        else if 0 < l'.length/\ra≠-1/\l'.getD 0 0≠ra then(0,33)
        else if rr=-1 then(l'.getD 0 0,0) else(rr,0) by rw [HOp.out,any_neg.2 HTo.out];rfl)
       clear HTo;have HL':=kp HCs.out;have B0:=kp (brq w2).drew;have B3:=kp (B2.out.trans (B0.out.mono B2.out.size));have RB3:=kp (Bk.on RB.out B0.out);have HC3:=kp (HCs.out.on B0.out);clear r0 r1 r2 r3 rf;go_wp2_with fail
       refine wp_region_held_drew (S:=fun W=>Below w2.heap.size w2 W) (by kernel_rfl) (B0.out) (fun hHeld=>?_);refine tk 0 (v:=?_) ?_ ?_;rotate_left
       ·(intro w hSw;go_simp;try with_reducible rfl)
       try simp only [pt]
       cases hal:alikeI l' with
       | false =>
        have HE:=kp (show res=(0,33) by rw [HOp.out,hal];rfl);refine rd 1 fun K hK=>?_;go_simp
        go_wp2_with (go_at_call 309;refine(HAl.out _ B0.out).mono ?_;rw [hal];rintro e W1 ⟨rfl,rfl⟩)
        refine hK.out _ _ (B0.out) (fun hHeld=>?_);clear hK K;try simp only [pt]
        refine plz [2,3] ?_;iterate 2 (refine tnz (v:=?_) ?_ ?_;rotate_left;(focus (intro w hSw;go_simp;try with_reducible rfl));try simp only [pt])
        refine pzz ?_;refine sk 4 ?_;try simp only [pt]
        refine sk 5 ?_;try simp only [pt]
        refine sk 6 ?_;try simp only [pt]
        refine sk 7 ?_;try simp only [pt]
        refine sk 8 ?_;try simp only [pt]
        refine sk 9 ?_;try simp only [pt]
        refine sk 10 ?_;try simp only [pt]
        refine sk 11 ?_;try simp only [pt]
        refine sk 12 ?_;try simp only [pt]
        refine sk 13 ?_;try simp only [pt]
        refine sk 14 ?_;try simp only [pt]
        refine sk 15 ?_;try simp only [pt]
        refine sk 16 ?_;try simp only [pt]
        refine sk 17 ?_;try simp only [pt]
        refine sk 18 ?_;try simp only [pt]
        refine sk 19 ?_;try simp only [pt]
        refine tk 20 (v:=?_) ?_ ?_;rotate_left
        ·(intro w hSw;go_simp;try with_reducible rfl)
        try simp only [pt]
        refine dnz ?_;clear hHeld;go_wp2_with fail
        exact HP.out _ _ _ HE.out B3.out
       | true =>
        replace HOp:=kp (show res=if 0 < l'.length/\ra≠-1/\l'.getD 0 0≠ra then(0,33)
         else if rr=-1 then(l'.getD 0 0,0) else(rr,0) by rw [HOp.out,hal];rfl)
        refine rd 1 fun K hK=>?_;go_simp
        go_wp2_with (go_at_call 309;refine(HAl.out _ B0.out).mono ?_;rw [hal];rintro e W1 ⟨rfl,rfl⟩)
        refine hK.out _ _ (B0.out) (fun hHeld=>?_);clear hK K;try simp only [pt]
        clear hal
        by_cases h0:0 < l'.length
        ·have h0':(0:Int) < (l'.length:Int):=by omega
         obtain ⟨b0,o0,hA0,p0⟩:=cells_get HC3.out h0;rw [Nat.add_zero] at p0
         have HP0:=kp (fun W (hW:Below w2.heap.size w2 W)=>show W.cell? ⟨b0,o0,none⟩=some (.int .i64 (l'.getD 0 0)) by
          obtain ⟨b1,o1,hA1,p1⟩:=cells_get (HCs.out.on hW) h0;rw [hA0] at hA1;obtain ⟨rfl,rfl⟩:=aiq hA1
          rwa [Nat.add_zero] at p1)
         clear p0;try subst hA0
         try (simp only [Option.some.injEq,Addr.mk.injEq,and_true] at hA0;obtain ⟨rfl,rfl⟩:=hA0)
         generalize l'.getD 0 0=y at *;refine plz [2,3,4,5,6,7] ?_;iterate 6 (refine tnz (v:=?_) ?_ ?_;rotate_left;(focus (intro w hSw;go_simp;try with_reducible rfl));try simp only [pt])
         refine pzz ?_
         by_cases h1:ra=-1
         ·replace HOp:=kp (show res=if rr=-1 then(y,0) else(rr,0) by rw [HOp.out,if_neg (by omega)]);subst h1;refine plz [8,9,10,11,12] ?_;iterate 5 (refine tnz (v:=?_) ?_ ?_;rotate_left;(focus first | ((intro w hSw;go_simp;try with_reducible rfl);done) | ((intro w hSw;(obtain ⟨r0,r1,r2,r3,rf⟩:=Bk.c4 (Bk.on RB.out hSw);go_simp;try with_reducible rfl));done));try simp only [pt])
          refine pzz ?_;refine sk 13 ?_;try simp only [pt]
          refine sk 14 ?_;try simp only [pt]
          refine sk 15 ?_;try simp only [pt]
          refine sk 16 ?_;try simp only [pt]
          refine sk 17 ?_;try simp only [pt]
          refine sk 18 ?_;try simp only [pt]
          refine plz [19,20] ?_;iterate 2 (refine tnz (v:=?_) ?_ ?_;rotate_left;(focus (intro w hSw;go_simp;try with_reducible rfl));try simp only [pt])
          refine pzz ?_;refine dnz ?_;clear hHeld;obtain ⟨r0,r1,r2,r3,rf⟩:=Bk.c4 RB3.out;have p0:=HP0.out _ B0.out
          by_cases h3:rr=-1
          ·have HE:=kp (show res=(y,0) by rw [HOp.out,if_pos h3]);subst h3;go_wp2_with fail
           exact HP.out _ _ _ HE.out B3.out
          ·have HE:=kp (show res=(rr,0) by rw [HOp.out,if_neg h3]);have h3':(rr == -1)=false:=beq_eq_false_iff_ne.2 h3;go_wp2_with fail
           exact HP.out _ _ _ HE.out B3.out
         ·have h1':(ra != -1)=true:=by rw [bne_iff_ne];exact h1
          refine plz [8,9,10,11,12,13,14,15,16,17] ?_;iterate 10 (refine tnz (v:=?_) ?_ ?_;rotate_left;(focus first | ((intro w hSw;go_simp;try with_reducible rfl);done) | ((intro w hSw;(obtain ⟨r0,r1,r2,r3,rf⟩:=Bk.c4 (Bk.on RB.out hSw);go_simp;try with_reducible rfl));done) | ((intro w hSw;(have p0:=HP0.out _ hSw;go_simp;try with_reducible rfl));done));try simp only [pt])
          refine pzz ?_
          by_cases h2:y=ra
          ·have h2':(y != ra)=false:=by simp [h2]
           replace HOp:=kp (show res=if rr=-1 then(y,0) else(rr,0) by rw [HOp.out,if_neg (by rintro ⟨_,_,h⟩;exact h h2)]);clear h2;refine plz [18,19,20] ?_;iterate 3 (refine tnz (v:=?_) ?_ ?_;rotate_left;(focus (intro w hSw;go_simp;try with_reducible rfl));try simp only [pt])
           refine pzz ?_;refine dnz ?_;clear hHeld;obtain ⟨r0,r1,r2,r3,rf⟩:=Bk.c4 RB3.out;have p0:=HP0.out _ B0.out
           by_cases h3:rr=-1
           ·have HE:=kp (show res=(y,0) by rw [HOp.out,if_pos h3]);subst h3;go_wp2_with fail
            exact HP.out _ _ _ HE.out B3.out
           ·have HE:=kp (show res=(rr,0) by rw [HOp.out,if_neg h3]);have h3':(rr == -1)=false:=beq_eq_false_iff_ne.2 h3;go_wp2_with fail
            exact HP.out _ _ _ HE.out B3.out
          ·have h2':(y != ra)=true:=by simp [h2]
           have HE:=kp (show res=(0,33) by rw [HOp.out,if_pos ⟨h0,h1,h2⟩]);clear h2;refine plz [18,19,20] ?_;iterate 3 (refine tnz (v:=?_) ?_ ?_;rotate_left;(focus (intro w hSw;go_simp;try with_reducible rfl));try simp only [pt])
           refine pzz ?_;refine dnz ?_;clear hHeld;go_wp2_with fail
           exact HP.out _ _ _ HE.out B3.out
        ·skip
         exfalso;omega
    ·have hz':(l.getD 0 0 != 0)=true:=by rw [bne_iff_ne];exact hz
     have HE:=kp (show res=(0,33) by rw [HOp.out,if_pos ⟨h7,hz⟩]);generalize l.getD 0 0=z at *;clear hz h7;go_wp2_with fail
     exact HP.out _ _ _ HE.out B2.out
   ·have h7':(op == 7)=false:=beq_eq_false_iff_ne.2 h7
    replace HOp:=kp (show res=if l.any (fun x=>decide (x < 0)) then(0,33) else if alikeI l=false then(0,33) else if 0 < l.length/\ra≠-1/\l.getD 0 0≠ra then(0,33) else if rr=-1 then(l.getD 0 0,0) else(rr,0) by
     rw [HOp.out,if_neg (by rintro ⟨h,_⟩;exact h7 h),show sameL op l=l by unfold sameL;rw [if_neg h7]])
    have HCs:=HC2;have HRr:=kp (show l.length=0->¬ rr=-1 from fun _ e=>h7 (HRR.out e));clear h7;have HAl:=kp (fun W (hW:Below w2.heap.size w2 W)=>alike_any (w:=W) c (HCs.out.on hW) (by omega));go_wp2_with fail
    go_loop [33] (fun v=>∃ k:Nat,k<=l.length/\v=.int .i64 k/\∀ j,j < k->¬ l.getD j 0 < 0) (fun v=>l.length - (intOf v).toNat)
    case atStart=>exact⟨0,Nat.zero_le _,rfl,fun j hj=>by omega⟩
    case round =>
     obtain ⟨k,hk,rfl,hto⟩:=hrel;have HTo:=kp hto;clear hto
     by_cases hlt:k < l.length
     ·have hlt2:(k:Int) < (l.length:Int):=by omega
      obtain ⟨bk,ok,hA,pk⟩:=cells_get HC2.out hlt;try subst hA
      try (simp only [Option.some.injEq,Addr.mk.injEq,and_true] at hA;obtain ⟨rfl,rfl⟩:=hA)
      have HTk:=kp (show ¬ l.getD k 0 < 0->∀ j,j < k+1->¬ l.getD j 0 < 0 from fun he j hj=>by
       by_cases h:j < k
       ·exact HTo.out j h
       ·obtain rfl:j=k:=by omega
        exact he)
      have HNk:=kp (show l.getD k 0 < 0->l.any (fun x=>decide (x < 0))=true from fun he=>by
       cases hq:l.any (fun x=>decide (x < 0)) with
       | true=>rfl
       | false=>exact absurd he (any_neg.1 hq k hlt))
      generalize l.getD k 0=x at *
      by_cases hx:x < 0
      ·have HE:=kp (show res=(0,33) by rw [HOp.out,HNk.out hx];rfl);go_wp2_with fail
       exact HP.out _ _ _ HE.out B2.out
      ·have HQ:=kp (HTk.out hx);replace hx:=dfq hx;go_wp2_with fail
       go_round
       case rel=>exact⟨k+1,by omega,by go_num,HQ.out⟩
       case measure=>simp [intOf];omega
     ·obtain rfl:k=l.length:=by omega
      replace HOp:=kp (show res=if alikeI l=false then(0,33)
       else if 0 < l.length/\ra≠-1/\l.getD 0 0≠ra then(0,33)
       else if rr=-1 then(l.getD 0 0,0) else(rr,0) by rw [HOp.out,any_neg.2 HTo.out];rfl)
      clear HTo;have HL':=kp HCs.out;have B0:=kp (brq w2).drew;have B3:=kp (B2.out.trans (B0.out.mono B2.out.size));have RB3:=kp (Bk.on RB.out B0.out);have HC3:=kp (HCs.out.on B0.out);clear r0 r1 r2 r3 rf;go_wp2_with fail
      refine wp_region_held_drew (S:=fun W=>Below w2.heap.size w2 W) (by kernel_rfl) (B0.out) (fun hHeld=>?_);refine tk 0 (v:=?_) ?_ ?_;rotate_left
      ·(intro w hSw;go_simp;try with_reducible rfl)
      try simp only [pt]
      cases hal:alikeI l with
      | false =>
       have HE:=kp (show res=(0,33) by rw [HOp.out,hal];rfl);refine rd 1 fun K hK=>?_;go_simp
       go_wp2_with (go_at_call 309;refine(HAl.out _ B0.out).mono ?_;rw [hal];rintro e W1 ⟨rfl,rfl⟩)
       refine hK.out _ _ (B0.out) (fun hHeld=>?_);clear hK K;try simp only [pt]
       refine plz [2,3] ?_;iterate 2 (refine tnz (v:=?_) ?_ ?_;rotate_left;(focus (intro w hSw;go_simp;try with_reducible rfl));try simp only [pt])
       refine pzz ?_;refine sk 4 ?_;try simp only [pt]
       refine sk 5 ?_;try simp only [pt]
       refine sk 6 ?_;try simp only [pt]
       refine sk 7 ?_;try simp only [pt]
       refine sk 8 ?_;try simp only [pt]
       refine sk 9 ?_;try simp only [pt]
       refine sk 10 ?_;try simp only [pt]
       refine sk 11 ?_;try simp only [pt]
       refine sk 12 ?_;try simp only [pt]
       refine sk 13 ?_;try simp only [pt]
       refine sk 14 ?_;try simp only [pt]
       refine sk 15 ?_;try simp only [pt]
       refine sk 16 ?_;try simp only [pt]
       refine sk 17 ?_;try simp only [pt]
       refine sk 18 ?_;try simp only [pt]
       refine sk 19 ?_;try simp only [pt]
       refine tk 20 (v:=?_) ?_ ?_;rotate_left
       ·(intro w hSw;go_simp;try with_reducible rfl)
       try simp only [pt]
       refine dnz ?_;clear hHeld;go_wp2_with fail
       exact HP.out _ _ _ HE.out B3.out
      | true =>
       replace HOp:=kp (show res=if 0 < l.length/\ra≠-1/\l.getD 0 0≠ra then(0,33)
        else if rr=-1 then(l.getD 0 0,0) else(rr,0) by rw [HOp.out,hal];rfl)
       refine rd 1 fun K hK=>?_;go_simp
       go_wp2_with (go_at_call 309;refine(HAl.out _ B0.out).mono ?_;rw [hal];rintro e W1 ⟨rfl,rfl⟩)
       refine hK.out _ _ (B0.out) (fun hHeld=>?_);clear hK K;try simp only [pt]
       clear hal
       by_cases h0:0 < l.length
       ·have h0':(0:Int) < (l.length:Int):=by omega
        obtain ⟨b0,o0,hA0,p0⟩:=cells_get HC3.out h0;rw [Nat.add_zero] at p0
        have HP0:=kp (fun W (hW:Below w2.heap.size w2 W)=>show W.cell? ⟨b0,o0,none⟩=some (.int .i64 (l.getD 0 0)) by
         obtain ⟨b1,o1,hA1,p1⟩:=cells_get (HCs.out.on hW) h0;rw [hA0] at hA1;obtain ⟨rfl,rfl⟩:=aiq hA1
         rwa [Nat.add_zero] at p1)
        clear p0;try subst hA0
        try (simp only [Option.some.injEq,Addr.mk.injEq,and_true] at hA0;obtain ⟨rfl,rfl⟩:=hA0)
        generalize l.getD 0 0=y at *;refine plz [2,3,4,5,6,7] ?_;iterate 6 (refine tnz (v:=?_) ?_ ?_;rotate_left;(focus (intro w hSw;go_simp;try with_reducible rfl));try simp only [pt])
        refine pzz ?_
        by_cases h1:ra=-1
        ·replace HOp:=kp (show res=if rr=-1 then(y,0) else(rr,0) by rw [HOp.out,if_neg (by omega)]);subst h1;refine plz [8,9,10,11,12] ?_;iterate 5 (refine tnz (v:=?_) ?_ ?_;rotate_left;(focus first | ((intro w hSw;go_simp;try with_reducible rfl);done) | ((intro w hSw;(obtain ⟨r0,r1,r2,r3,rf⟩:=Bk.c4 (Bk.on RB.out hSw);go_simp;try with_reducible rfl));done));try simp only [pt])
         refine pzz ?_;refine sk 13 ?_;try simp only [pt]
         refine sk 14 ?_;try simp only [pt]
         refine sk 15 ?_;try simp only [pt]
         refine sk 16 ?_;try simp only [pt]
         refine sk 17 ?_;try simp only [pt]
         refine sk 18 ?_;try simp only [pt]
         refine plz [19,20] ?_;iterate 2 (refine tnz (v:=?_) ?_ ?_;rotate_left;(focus (intro w hSw;go_simp;try with_reducible rfl));try simp only [pt])
         refine pzz ?_;refine dnz ?_;clear hHeld;obtain ⟨r0,r1,r2,r3,rf⟩:=Bk.c4 RB3.out;have p0:=HP0.out _ B0.out
         by_cases h3:rr=-1
         ·have HE:=kp (show res=(y,0) by rw [HOp.out,if_pos h3]);subst h3;go_wp2_with fail
          exact HP.out _ _ _ HE.out B3.out
         ·have HE:=kp (show res=(rr,0) by rw [HOp.out,if_neg h3]);have h3':(rr == -1)=false:=beq_eq_false_iff_ne.2 h3;go_wp2_with fail
          exact HP.out _ _ _ HE.out B3.out
        ·have h1':(ra != -1)=true:=by rw [bne_iff_ne];exact h1
         refine plz [8,9,10,11,12,13,14,15,16,17] ?_;iterate 10 (refine tnz (v:=?_) ?_ ?_;rotate_left;(focus first | ((intro w hSw;go_simp;try with_reducible rfl);done) | ((intro w hSw;(obtain ⟨r0,r1,r2,r3,rf⟩:=Bk.c4 (Bk.on RB.out hSw);go_simp;try with_reducible rfl));done) | ((intro w hSw;(have p0:=HP0.out _ hSw;go_simp;try with_reducible rfl));done));try simp only [pt])
         refine pzz ?_
         by_cases h2:y=ra
         ·have h2':(y != ra)=false:=by simp [h2]
          replace HOp:=kp (show res=if rr=-1 then(y,0) else(rr,0) by rw [HOp.out,if_neg (by rintro ⟨_,_,h⟩;exact h h2)]);clear h2;refine plz [18,19,20] ?_;iterate 3 (refine tnz (v:=?_) ?_ ?_;rotate_left;(focus (intro w hSw;go_simp;try with_reducible rfl));try simp only [pt])
          refine pzz ?_;refine dnz ?_;clear hHeld;obtain ⟨r0,r1,r2,r3,rf⟩:=Bk.c4 RB3.out;have p0:=HP0.out _ B0.out
          by_cases h3:rr=-1
          ·have HE:=kp (show res=(y,0) by rw [HOp.out,if_pos h3]);subst h3;go_wp2_with fail
           exact HP.out _ _ _ HE.out B3.out
          ·have HE:=kp (show res=(rr,0) by rw [HOp.out,if_neg h3]);have h3':(rr == -1)=false:=beq_eq_false_iff_ne.2 h3;go_wp2_with fail
           exact HP.out _ _ _ HE.out B3.out
         ·have h2':(y != ra)=true:=by simp [h2]
          have HE:=kp (show res=(0,33) by rw [HOp.out,if_pos ⟨h0,h1,h2⟩]);clear h2;refine plz [18,19,20] ?_;iterate 3 (refine tnz (v:=?_) ?_ ?_;rotate_left;(focus (intro w hSw;go_simp;try with_reducible rfl));try simp only [pt])
          refine pzz ?_;refine dnz ?_;clear hHeld;go_wp2_with fail
          exact HP.out _ _ _ HE.out B3.out
       ·skip;have hl0:l.length=0:=by omega
        have hy:l.getD 0 0=0:=by rw [List.length_eq_zero_iff.1 hl0];rfl
        replace HOp:=kp (show res=if rr=-1 then(0,0) else(rr,0) by rw [HOp.out,if_neg (by omega),hy]);have h0':decide ((0:Int) < (l.length:Int))=false:=dfq (by omega);refine plz [2,3,4,5,6,7] ?_;iterate 6 (refine tnz (v:=?_) ?_ ?_;rotate_left;(focus (intro w hSw;go_simp;try with_reducible rfl));try simp only [pt])
        refine pzz ?_;refine sk 8 ?_;try simp only [pt]
        refine sk 9 ?_;try simp only [pt]
        refine sk 10 ?_;try simp only [pt]
        refine plz [11,12] ?_;iterate 2 (refine tnz (v:=?_) ?_ ?_;rotate_left;(focus (intro w hSw;go_simp;try with_reducible rfl));try simp only [pt])
        refine pzz ?_;refine sk 13 ?_;try simp only [pt]
        refine sk 14 ?_;try simp only [pt]
        refine sk 15 ?_;try simp only [pt]
        refine sk 16 ?_;try simp only [pt]
        refine sk 17 ?_;try simp only [pt]
        refine sk 18 ?_;try simp only [pt]
        refine plz [19,20] ?_;iterate 2 (refine tnz (v:=?_) ?_ ?_;rotate_left;(focus (intro w hSw;go_simp;try with_reducible rfl));try simp only [pt])
        refine pzz ?_;refine dnz ?_;clear hHeld;obtain ⟨r0,r1,r2,r3,rf⟩:=Bk.c4 RB3.out;have h3:=HRr.out hl0;have h3':(rr == -1)=false:=beq_eq_false_iff_ne.2 h3;have HE:=kp (show res=(rr,0) by rw [HOp.out,if_neg h3]);go_wp2_with fail
        exact HP.out _ _ _ HE.out B3.out
  ·have hn':((l.length:Int) != rn)=true:=by simp [hn]
   have HE:=kp (show res=(0,2) by rw [HOp.out,if_pos (.inr hn)]);clear hn;go_wp2_with fail
   exact HP.out _ _ _ HE.out B2.out
def Fun4.arg (f:Fun4) (i:Nat):Int:=if i=0 then f.a0 else if i=1 then f.a1 else f.a2
def FunAt (w:World) (b o:Nat) (f:Fun4):Prop:=b < w.heap.size/\w.cell? ⟨b,o,none⟩=some (.string f.name)/\w.cell? ⟨b,o+1,none⟩=some (.int .i64 f.len)/\w.cell? ⟨b,o+2,none⟩=some (.int .i64 f.a0)/\w.cell? ⟨b,o+3,none⟩=some (.int .i64 f.a1)/\w.cell? ⟨b,o+4,none⟩=some (.int .i64 f.a2)/\w.cell? ⟨b,o+5,none⟩=some (.int .i64 f.res)
theorem FunAt.on {w w':World} {b o:Nat} {f:Fun4} (h:FunAt w b o f) (hb:Below w.heap.size w w'):FunAt w' b o f:=by
 obtain ⟨hl,h0,h1,h2,h3,h4,h5⟩:=h;have k:=fun j=>(bcell hb).1 b j hl;exact⟨Nat.lt_of_lt_of_le hl hb.size,(k _).trans h0,(k _).trans h1,(k _).trans h2,(k _).trans h3,(k _).trans h4,(k _).trans h5⟩
theorem FunAt.arg {w:World} {b o:Nat} {f:Fun4} (h:FunAt w b o f) {i:Nat} (hi:i < 3):w.cell? ⟨b,o+2+i,none⟩=some (.int .i64 (Fun4.arg f i)):=by
 obtain ⟨hl,h0,h1,h2,h3,h4,h5⟩:=h;have hc:i=0\/i=1\/i=2:=by omega
 rcases hc with rfl | rfl | rfl
 ·exact h2
 ·exact h3
 ·exact h4
structure FunI (f:Fun4):Prop where
 len:I64 f.len
 a0:I64 f.a0
 a1:I64 f.a1
 a2:I64 f.a2
 res:I64 f.res
theorem fun_get {w:World} {A:Option Addr} {l:List Fun4} (h:Lies 6 FunR w A l) {k:Nat} {f:Fun4} (hf:l[k]?=some f):∃ b o,A=some ⟨b,o,none⟩/\FunAt w b (o+k * 6) f/\FunI f:=by
 obtain ⟨b,o,vs,hA,hb,_,hc,rfl,_,h1,h2,h3,h4,h5⟩:=h.at' hf;exact⟨b,o,hA,⟨hb,hc 0 _ rfl,hc 1 _ rfl,hc 2 _ rfl,hc 3 _ rfl,hc 4 _ rfl,hc 5 _ rfl⟩,⟨h1,h2,h3,h4,h5⟩⟩
def argsB (f:Fun4) (l:List Int):Bool:=(List.range l.length).all fun i=>l.getD i 0 == Fun4.arg f i
theorem argsB_stop {f:Fun4} {l:List Int} {k:Nat} (hk:k < l.length) (h:l.getD k 0≠Fun4.arg f k):argsB f l=false:=by
 unfold argsB;rw [List.all_eq_false];exact⟨k,List.mem_range.2 hk,by simpa using h⟩
theorem argsB_all {f:Fun4} {l:List Int} (h:∀ k,k < l.length->l.getD k 0=Fun4.arg f k):argsB f l=true:=by
 unfold argsB;rw [List.all_eq_true];intro k hk;rw [h k (List.mem_range.1 hk)];simp
def appProg (g:Sig) (f:Int) (l:List Int):Int × Int :=
 if f < 0\/(g.funs.length:Int)<=f then(0,2)
 else match g.funs[f.toNat]? with
  | none=>(0,2)
  | some x=>if(l.length:Int)≠x.len then(0,2) else if argsB x l=true then(x.res,0) else(0,33)
def AppPost (g:Sig) (f:Int) (l:List Int) (w:World) (e:Ending) (w':World):Prop:=e=.returned (.tuple #[.int .i64 (appProg g f l).1,.int .i64 (appProg g f l).2])/\Below w.heap.size w w'
theorem appPost {g:Sig} {op:Int} {l:List Int} {w w':World} {a b:Int} (h:appProg g op l=(a,b)) (hb:Below w.heap.size w w'):AppPost g op l w (.returned (.tuple #[.int .i64 a,.int .i64 b])) w':=by
 unfold AppPost;rw [h];exact⟨rfl,hb⟩
theorem tyapp_any {w:World} {A1 A2 A3:Option Addr} {c1 c2 c3:Nat} {g:Sig} (h:SigAt w A1 c1 A2 c2 A3 c3 g) (hg:checkE g=0) (hl1:g.sorts.length<=1000000) (hl2:g.funs.length<=1000000) (hl3:g.macros.length<=1000000) {A:Option Addr} {l:List Int} (c:Nat) (f:Int) (hf:I64 f) (hl:Cells w A (l.map (Value.int .i64))) (hn:l.length<=3) :
  Calls Tryz.prog 236 #[.agg #[.slice A1 g.sorts.length c1,.slice A2 g.funs.length c2,.slice A3 g.macros.length c3],.int .i64 f,.slice A l.length c] w (AppPost g f l w):=by
 have HP:=kp (fun a b w' h hb=>appPost (g:=g) (op:=f) (l:=l) (w:=w) (w':=w') (a:=a) (b:=b) h hb);have HL:=kp hl;have HS:=kp h
 have HA:=kp (show appProg g f l=if f < 0\/(g.funs.length:Int)<=f then((0,2):Int × Int) else match g.funs[f.toNat]? with
  | none=>(0,2)
  | some x=>if(l.length:Int)≠x.len then(0,2) else if argsB x l=true then(x.res,0) else(0,33) from rfl)
 have SB:=kp (Bk.new w (.cells #[.slice A1 g.sorts.length c1,.slice A2 g.funs.length c2,.slice A3 g.macros.length c3] 93));have B1:=kp ((brq w).alloc nlq (.cells #[.slice A1 g.sorts.length c1,.slice A2 g.funs.length c2,.slice A3 g.macros.length c3] 93));have HC:=kp (fun W (hW:Below w.heap.size w W)=>by have:=check_any (h.on hW) (by omega) (by omega) (by omega);rw [hg] at this;exact this);have HZ:=kp B1.out.size;have HL1:=kp (HL.out.on B1.out);have HS1:=kp (HS.out.on B1.out);clear h hl hg HL HS;generalize AppPost g f l w=PP at *;generalize appProg g f l=res at *
 go_enter Tryz.func236,Tryz.ntmps236
 go_upto_region 1 with fail
 generalize w.heap.size=sb at *;generalize w.alloc (.cells #[.slice A1 g.sorts.length c1,.slice A2 g.funs.length c2,.slice A3 g.macros.length c3] 93)=w1 at *;have HC1:=kp (fun W (hW:Below w1.heap.size w1 W)=>HC.out W (B1.out.trans (hW.mono HZ.out)));obtain ⟨r0,r1,r2,rf⟩:=Bk.c3 SB.out;go_wp2_with fail
 refine(HC1.out _ (brq w1)).mono ?_;rintro e w2 ⟨rfl,hb⟩;have B2:=kp hb;have B3:=kp (B1.out.trans (B2.out.mono HZ.out));have SB2:=kp (Bk.on SB.out B2.out);have HL2:=kp (HL1.out.on B2.out);clear hb r0 r1 r2 rf HC1;obtain ⟨r0,r1,r2,rf⟩:=Bk.c3 SB2.out
 by_cases h0:f < 0
 ·have HE:=kp (show res=(0,2) by rw [HA.out,if_pos (.inl h0)]);go_wp2_with fail
  exact HP.out _ _ _ HE.out B3.out
 by_cases h1:(g.funs.length:Int)<=f
 ·have HE:=kp (show res=(0,2) by rw [HA.out,if_pos (.inr h1)]);replace h0:=dfq h0;go_wp2_with fail
  exact HP.out _ _ _ HE.out B3.out
 replace HA:=kp (HA.out.trans (if_neg (by omega)));obtain ⟨k,rfl⟩:∃ k:Nat,f=(k:Int):=⟨f.toNat,by omega⟩;have hk:k < g.funs.length:=by omega
 obtain ⟨x,hx⟩:∃ x,g.funs[k]?=some x:=⟨_,gqe hk⟩;replace HA:=kp (show res=if(l.length:Int)≠x.len then(0,2) else if argsB x l=true then(x.res,0) else(0,33) by rw [HA.out,Int.toNat_natCast,hx]);obtain ⟨fb,fo,hA2,hfa,hfi⟩:=fun_get (HS1.out.on B2.out).funs hx;subst hA2;have HF:=kp hfa;clear hx hfa;replace h0:=dfq h0;replace h1:=dfq h1;have hk2:(k:Int) < (g.funs.length:Int):=by omega
 obtain ⟨_,_,q1,_,_,_,q5⟩:=HF.out
 by_cases hn2:(l.length:Int)=x.len
 ·have hn3:((l.length:Int) != x.len)=false:=by simp [hn2]
  replace HA:=kp (HA.out.trans (if_neg (by simp [hn2])));clear hn2;go_wp2_with fail
  go_loop [37] (fun v=>∃ j:Nat,j<=l.length/\v=.int .i64 j/\∀ i,i < j->l.getD i 0=Fun4.arg x i) (fun v=>l.length - (intOf v).toNat)
  case atStart=>exact⟨0,Nat.zero_le _,rfl,fun j hj=>by omega⟩
  case round =>
   obtain ⟨j,hj,rfl,hto⟩:=hrel;have HTo:=kp hto;clear hto
   by_cases hlt:j < l.length
   ·have hlt2:(j:Int) < (l.length:Int):=by omega
    have hj3:j < 3:=by omega
    have hj4:(j:Int) < 3:=by omega
    obtain ⟨b,o,rfl,p0⟩:=cells_get HL2.out hlt;have p1:=FunAt.arg HF.out hj3
    have HTk:=kp (show l.getD j 0=Fun4.arg x j->∀ i,i < j+1->l.getD i 0=Fun4.arg x i from fun he i hi=>by
     by_cases h:i < j
     ·exact HTo.out i h
     ·obtain rfl:i=j:=by omega
      exact he)
    have HNk:=kp (fun hne=>argsB_stop (f:=x) (l:=l) (k:=j) hlt hne);generalize l.getD j 0=y at *;generalize Fun4.arg x j=z at *
    by_cases hy:y=z
    ·have hy':(y != z)=false:=by simp [hy]
     have HQ:=kp (HTk.out hy);clear hy;go_wp2_with fail
     go_round
     case rel=>exact⟨j+1,by omega,by go_num,HQ.out⟩
     case measure=>simp [intOf];omega
    ·have hy':(y != z)=true:=by simp [hy]
     have HE:=kp (show res=(0,33) by rw [HA.out,HNk.out hy];rfl);clear hy;go_wp2_with fail
     exact HP.out _ _ _ HE.out B3.out
   ·obtain rfl:j=l.length:=by omega
    have HE:=kp (show res=(x.res,0) by rw [HA.out,argsB_all HTo.out];rfl);go_wp2_with fail
    exact HP.out _ _ _ HE.out B3.out
 ·have hn3:((l.length:Int) != x.len)=true:=by simp [hn2]
  have HE:=kp (show res=(0,2) by rw [HA.out,if_pos hn2]);go_wp2_with fail
  exact HP.out _ _ _ HE.out B3.out
end El
end Go.Proofs.YtmcbolkpbklfeaaGreatDoor
