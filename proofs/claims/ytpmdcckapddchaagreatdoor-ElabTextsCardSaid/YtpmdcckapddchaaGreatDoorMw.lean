import Derived.Test.YtpmdcckapddchaaGreatDoorShort
import Derived.Test.YtpmdcckapddchaaGreatDoorMv
/- merged by wip/merge.py from: RTyOp -/
set_option maxRecDepth 100000
set_option maxHeartbeats 51200000
namespace Go.Proofs.YtpmdcckapddchaaGreatDoor
namespace El
open Go.RowKit Dt Sg
def rmanyN (op:Int):Int:=if op=0\/op=10 then 0 else if op=1\/op=11 then 1 else if op=2\/op=3\/op=4\/op=5\/op=6\/op=8\/op=9\/op=12 then 2 else if op=7 then 3 else -1
theorem rmany_any (op:Int) (w:World) :
  Calls Tryz.prog 130 #[.int .i8 op] w fun e w'=>e=.returned (.int .i64 (rmanyN op))/\w=w':=by
 go_enter Tryz.func130,Tryz.ntmps130
 go_wp2_with fail
 all_goals
  go_ret;exact⟨ret_int (by unfold rmanyN;simp_all),rfl⟩
def allI (l:List Int) (s:Int):Bool:=l.all fun x=>x == s
theorem ralike_any {w:World} {A:Option Addr} {l:List Int} (c:Nat) (n s:Int) (h:Cells w A (l.map (Value.int .i64))) (hl:l.length<=1000000) :
  Calls Tryz.prog 131 #[.slice A l.length c,.int .i64 n,.int .i64 s] w fun e w'=>e=.returned (.bool (allI l s && decide ((l.length:Int)=n)))/\w=w':=by
 have HC:=kp h
 have HSt:=kp (fun k (hk:k < l.length) (hne:l.getD k 0≠s)=>show allI l s=false by
  unfold allI;rw [List.all_eq_false];refine⟨l.getD k 0,?_,by simpa using hne⟩;rw [List.getD_eq_getElem?_getD,gqe hk];exact List.getElem_mem hk)
 have HAl:=kp (fun(hh:∀ k,k < l.length->l.getD k 0=s)=>show allI l s=true by
  unfold allI;rw [List.all_eq_true];intro x hx;obtain ⟨k,hk⟩:=List.getElem?_of_mem hx;have h1:=hh k (gqs hk).1;rw [List.getD_eq_getElem?_getD,hk] at h1
  simpa using h1)
 clear h;generalize allI l s=al at *
 go_enter Tryz.func131,Tryz.ntmps131
 go_wp2_with fail
 go_loop [7] (fun v=>∃ k:Nat,k<=l.length/\v=.int .i64 k/\∀ j,j < k->l.getD j 0=s) (fun v=>l.length - (intOf v).toNat)
 case atStart=>exact⟨0,Nat.zero_le _,rfl,fun j hj=>by omega⟩
 case round =>
  obtain ⟨k,hk,rfl,hto⟩:=hrel;have HTo:=kp hto;clear hto
  by_cases hlt:k < l.length
  ·have hlt2:(k:Int) < (l.length:Int):=by omega
   obtain ⟨b,o,rfl,pk⟩:=cells_get HC.out hlt;have HSk:=kp (fun hne=>HSt.out k hlt hne)
   have HTk:=kp (show l.getD k 0=s->∀ j,j < k+1->l.getD j 0=s from fun he j hj=>by
    by_cases h:j < k
    ·exact HTo.out j h
    ·obtain rfl:j=k:=by omega
     exact he)
   generalize l.getD k 0=x at *
   by_cases hq:x=s
   ·have hq':(x != s)=false:=by simp [hq]
    have HQ:=kp (HTk.out hq);clear hq;go_wp2_with fail
    go_round
    case rel=>exact⟨k+1,by omega,by go_num,HQ.out⟩
    case measure=>simp [intOf];omega
   ·have hq':(x != s)=true:=by simp [hq]
    have HQ:=kp (HSk.out hq);clear hq;go_wp2_with fail
    go_ret;exact⟨ret_bool (by rw [HQ.out];rfl),rfl⟩
  ·obtain rfl:k=l.length:=by omega
   have HQ:=kp (HAl.out HTo.out);go_wp2_with fail
   go_ret;exact⟨ret_bool (by rw [HQ.out];rfl),rfl⟩
def RopPost (op:Int) (l:List Int) (w:World) (e:Ending) (w':World):Prop :=
 (∃ a er,e=.returned (.tuple #[.int .i64 a,.int .i64 er])/\(∀ s,opS op l=some s->a=s/\er=0)/\(opS op l=none->a=0/\(er=2\/er=33)))/\Below w.heap.size w w'
theorem rop_none {op:Int} {l:List Int} {w w':World} {er:Int} (h:opS op l=none) (he:er=2\/er=33) (hb:Below w.heap.size w w'):RopPost op l w (.returned (.tuple #[.int .i64 0,.int .i64 er])) w' :=
 ⟨⟨0,er,rfl,fun s hs=>by rw [h] at hs;(cases hs),fun _=>⟨rfl,he⟩⟩,hb⟩
theorem rop_some {op:Int} {l:List Int} {w w':World} {s:Int} (h:opS op l=some s) (hb:Below w.heap.size w w'):RopPost op l w (.returned (.tuple #[.int .i64 s,.int .i64 0])) w' :=
 ⟨⟨s,0,rfl,fun u hs=>by rw [h] at hs;cases hs;exact⟨rfl,rfl⟩,fun hn=>by rw [h] at hn;cases hn⟩,hb⟩
theorem opS_neg {op:Int} {l:List Int} (h:l.any (fun x=>decide (x < 0))=true):opS op l=none:=by
 cases ho:opS op l with
 | none=>rfl
 | some s =>
  have:=opProg_some.1 s ho;unfold opProg at this;rw [h] at this
  repeat' split at this
  all_goals simp at this
  all_goals (exfalso;simp_all)
theorem rmany_rule (op:Int) (h:ruleK op=true):(ruleL op).1=rmanyN op:=by
 by_cases ho:0<=op/\op<=12
 ·have:op=0\/op=1\/op=2\/op=3\/op=4\/op=5\/op=6\/op=7\/op=8\/op=9\/op=10\/op=11\/op=12:=by omega
  rcases this with rfl | rfl | rfl | rfl | rfl | rfl | rfl | rfl | rfl | rfl | rfl | rfl | rfl <;> decide
 ·exfalso
  unfold ruleK at h;simp at h
  omega
theorem rop_bad {w:World} {A:Option Addr} {l:List Int} (c:Nat) (op:Int) (h:rmanyN op < 0\/(l.length:Int)≠rmanyN op) :
  Calls Tryz.prog 85 #[.int .i8 op,.slice A l.length c] w (RopPost op l w):=by
 have HP:=kp (show ∀ w',Below w.heap.size w w'->RopPost op l w (.returned (.tuple #[.int .i64 0,.int .i64 2])) w' from fun w' hb=>rop_none (by
  cases ho:opS op l with
  | none=>rfl
  | some s =>
   obtain ⟨h1,h2⟩:=opS_len ho;rw [rmany_rule op h1] at h2
   exfalso;omega) (.inl rfl) hb)
 have HM:=kp (fun W=>rmany_any op W);generalize rmanyN op=m at *;generalize RopPost op l w=PP at *
 by_cases h0:m < 0
 ·go_enter Tryz.func85,Tryz.ntmps85
  go_wp2_with fail
  refine(HM.out _).mono ?_;rintro e w' ⟨rfl,rfl⟩;go_wp2_with fail
  exact HP.out _ (Below.refl _ _)
 ·have h1:((l.length:Int) != m)=true:=by simp;omega
  replace h0:=dfq h0;clear h
  go_enter Tryz.func85,Tryz.ntmps85
  go_wp2_with fail
  refine(HM.out _).mono ?_;rintro e w' ⟨rfl,rfl⟩;go_wp2_with fail
  exact HP.out _ (Below.refl _ _)
theorem rop_0 {w:World} {A:Option Addr} (c:Nat) (h:Cells w A (([]:List Int).map (Value.int .i64))) :
  Calls Tryz.prog 85 #[.int .i8 0,.slice A 0 c] w (RopPost 0 [] w):=by
 have HC:=kp h;have HNg:=kp (fun w' hn hb=>rop_none (op:=0) (l:=[]) (w:=w) (w':=w') (er:=33) (opS_neg hn) (.inr rfl) hb);have HM:=kp (show ∀ W,Calls Tryz.prog 130 #[.int .i8 0] W fun e w'=>e=.returned (.int .i64 0)/\W=w' from fun W=>rmany_any 0 W);have BR:=kp (brq w);clear h
 go_enter Tryz.func85,Tryz.ntmps85
 go_wp2_with fail
 refine(HM.out _).mono ?_;rintro e w' ⟨rfl,rfl⟩;go_wp2_with fail
 go_loop [7] (fun v=>∃ k:Nat,k<=0/\v=.int .i64 k/\∀ j,j < k->¬ ([]:List Int).getD j 0 < 0) (fun v=>0 - (intOf v).toNat)
 case atStart=>exact⟨0,Nat.zero_le _,rfl,fun j hj=>by omega⟩
 case round =>
  obtain ⟨k,hk,rfl,hto⟩:=hrel;have HTo:=kp hto;clear hto
  by_cases hlt:k < 0
  ·skip;exact absurd hlt (Nat.not_lt_zero k)
  ·obtain rfl:k=0:=by omega
   clear HNg HM hlt hk;go_wp2_with fail
   go_ret2;exact rop_some (op:=0) (l:=[]) (s:=0) (by decide) BR.out
theorem rop_10 {w:World} {A:Option Addr} (c:Nat) (h:Cells w A (([]:List Int).map (Value.int .i64))) :
  Calls Tryz.prog 85 #[.int .i8 10,.slice A 0 c] w (RopPost 10 [] w):=by
 have HC:=kp h;have HNg:=kp (fun w' hn hb=>rop_none (op:=10) (l:=[]) (w:=w) (w':=w') (er:=33) (opS_neg hn) (.inr rfl) hb);have HM:=kp (show ∀ W,Calls Tryz.prog 130 #[.int .i8 10] W fun e w'=>e=.returned (.int .i64 0)/\W=w' from fun W=>rmany_any 10 W);have BR:=kp (brq w);clear h
 go_enter Tryz.func85,Tryz.ntmps85
 go_wp2_with fail
 refine(HM.out _).mono ?_;rintro e w' ⟨rfl,rfl⟩;go_wp2_with fail
 go_loop [7] (fun v=>∃ k:Nat,k<=0/\v=.int .i64 k/\∀ j,j < k->¬ ([]:List Int).getD j 0 < 0) (fun v=>0 - (intOf v).toNat)
 case atStart=>exact⟨0,Nat.zero_le _,rfl,fun j hj=>by omega⟩
 case round =>
  obtain ⟨k,hk,rfl,hto⟩:=hrel;have HTo:=kp hto;clear hto
  by_cases hlt:k < 0
  ·skip;exact absurd hlt (Nat.not_lt_zero k)
  ·obtain rfl:k=0:=by omega
   clear HNg HM hlt hk;go_wp2_with fail
   go_ret2;exact rop_some (op:=10) (l:=[]) (s:=1) (by decide) BR.out
theorem rop_1 {w:World} {A:Option Addr}{x:Int} (c:Nat) (h:Cells w A (([x]:List Int).map (Value.int .i64))) :
  Calls Tryz.prog 85 #[.int .i8 1,.slice A 1 c] w (RopPost 1 [x] w):=by
 have HC:=kp h;have HNg:=kp (fun w' hn hb=>rop_none (op:=1) (l:=[x]) (w:=w) (w':=w') (er:=33) (opS_neg hn) (.inr rfl) hb);have HM:=kp (show ∀ W,Calls Tryz.prog 130 #[.int .i8 1] W fun e w'=>e=.returned (.int .i64 1)/\W=w' from fun W=>rmany_any 1 W);have BR:=kp (brq w);clear h
 go_enter Tryz.func85,Tryz.ntmps85
 go_wp2_with fail
 refine(HM.out _).mono ?_;rintro e w' ⟨rfl,rfl⟩;go_wp2_with fail
 go_loop [7] (fun v=>∃ k:Nat,k<=1/\v=.int .i64 k/\∀ j,j < k->¬ ([x]:List Int).getD j 0 < 0) (fun v=>1 - (intOf v).toNat)
 case atStart=>exact⟨0,Nat.zero_le _,rfl,fun j hj=>by omega⟩
 case round =>
  obtain ⟨k,hk,rfl,hto⟩:=hrel;have HTo:=kp hto;clear hto
  by_cases hlt:k < 1
  ·skip;have hlt2:(k:Int) < 1:=by omega
   obtain ⟨bk,ok,rfl,pk⟩:=cells_get HC.out (show k < ([x]:List Int).length by simpa using hlt)
   have HTk:=kp (show ¬ ([x]:List Int).getD k 0 < 0->∀ j,j < k+1->¬ ([x]:List Int).getD j 0 < 0 from fun he j hj=>by
    by_cases h:j < k
    ·exact HTo.out j h
    ·obtain rfl:j=k:=by omega
     exact he)
   have HNk:=kp (show([x]:List Int).getD k 0 < 0->([x]:List Int).any (fun x=>decide (x < 0))=true from fun he=>by
    cases hq:([x]:List Int).any (fun x=>decide (x < 0)) with
    | true=>rfl
    | false=>exact absurd he (any_neg.1 hq k (by simpa using hlt)))
   generalize ([x]:List Int).getD k 0=q at *
   by_cases hq:q < 0
   ·go_wp2_with fail
    go_ret2;exact HNg.out _ (HNk.out hq) BR.out
   ·have HQ:=kp (HTk.out hq);replace hq:=dfq hq;go_wp2_with fail
    go_round
    case rel=>exact⟨k+1,by omega,by go_num,HQ.out⟩
    case measure=>simp [intOf];omega
  ·obtain rfl:k=1:=by omega
   clear HNg HM hlt hk
   have HAl:=kp (show ∀ W,Below w.heap.size w W->Calls Tryz.prog 131 #[.slice A 1 c,.int .i64 1,.int .i64 0] W fun e w'=>e=.returned (.bool (allI [x] 0))/\W=w' from fun W hW=>by
    have:=ralike_any (w:=W) (l:=[x]) c 1 0 (HC.out.on hW) (by simp);rw [show(allI [x] 0 && decide ((([x]:List Int).length:Int)=1))=allI [x] 0 by simp] at this;exact this)
   cases ha:allI [x] 0 with
   | true =>
    rw [ha] at HAl;have HE:=kp (rop_some (op:=1) (l:=[x]) (w:=w) (w':=w) (s:=0) (by unfold allI at ha;simp at ha;simp [opS,ha]) BR.out);clear ha;go_wp2_with fail
    refine(HAl.out _ BR.out).mono ?_;rintro e w' ⟨rfl,rfl⟩;go_wp2_with fail
    go_ret2;exact HE.out
   | false =>
    rw [ha] at HAl;have HE:=kp (rop_none (op:=1) (l:=[x]) (w:=w) (w':=w) (er:=33) (by unfold allI at ha;simp at ha;simp [opS];try exact ha) (.inr rfl) BR.out);clear ha;go_wp2_with fail
    refine(HAl.out _ BR.out).mono ?_;rintro e w' ⟨rfl,rfl⟩;go_wp2_with fail
    go_ret2;exact HE.out
theorem rop_11 {w:World} {A:Option Addr}{x:Int} (c:Nat) (h:Cells w A (([x]:List Int).map (Value.int .i64))) :
  Calls Tryz.prog 85 #[.int .i8 11,.slice A 1 c] w (RopPost 11 [x] w):=by
 have HC:=kp h;have HNg:=kp (fun w' hn hb=>rop_none (op:=11) (l:=[x]) (w:=w) (w':=w') (er:=33) (opS_neg hn) (.inr rfl) hb);have HM:=kp (show ∀ W,Calls Tryz.prog 130 #[.int .i8 11] W fun e w'=>e=.returned (.int .i64 1)/\W=w' from fun W=>rmany_any 11 W);have BR:=kp (brq w);clear h
 go_enter Tryz.func85,Tryz.ntmps85
 go_wp2_with fail
 refine(HM.out _).mono ?_;rintro e w' ⟨rfl,rfl⟩;go_wp2_with fail
 go_loop [7] (fun v=>∃ k:Nat,k<=1/\v=.int .i64 k/\∀ j,j < k->¬ ([x]:List Int).getD j 0 < 0) (fun v=>1 - (intOf v).toNat)
 case atStart=>exact⟨0,Nat.zero_le _,rfl,fun j hj=>by omega⟩
 case round =>
  obtain ⟨k,hk,rfl,hto⟩:=hrel;have HTo:=kp hto;clear hto
  by_cases hlt:k < 1
  ·skip;have hlt2:(k:Int) < 1:=by omega
   obtain ⟨bk,ok,rfl,pk⟩:=cells_get HC.out (show k < ([x]:List Int).length by simpa using hlt)
   have HTk:=kp (show ¬ ([x]:List Int).getD k 0 < 0->∀ j,j < k+1->¬ ([x]:List Int).getD j 0 < 0 from fun he j hj=>by
    by_cases h:j < k
    ·exact HTo.out j h
    ·obtain rfl:j=k:=by omega
     exact he)
   have HNk:=kp (show([x]:List Int).getD k 0 < 0->([x]:List Int).any (fun x=>decide (x < 0))=true from fun he=>by
    cases hq:([x]:List Int).any (fun x=>decide (x < 0)) with
    | true=>rfl
    | false=>exact absurd he (any_neg.1 hq k (by simpa using hlt)))
   generalize ([x]:List Int).getD k 0=q at *
   by_cases hq:q < 0
   ·go_wp2_with fail
    go_ret2;exact HNg.out _ (HNk.out hq) BR.out
   ·have HQ:=kp (HTk.out hq);replace hq:=dfq hq;go_wp2_with fail
    go_round
    case rel=>exact⟨k+1,by omega,by go_num,HQ.out⟩
    case measure=>simp [intOf];omega
  ·obtain rfl:k=1:=by omega
   clear HNg HM hlt hk
   have HAl:=kp (show ∀ W,Below w.heap.size w W->Calls Tryz.prog 131 #[.slice A 1 c,.int .i64 1,.int .i64 1] W fun e w'=>e=.returned (.bool (allI [x] 1))/\W=w' from fun W hW=>by
    have:=ralike_any (w:=W) (l:=[x]) c 1 1 (HC.out.on hW) (by simp);rw [show(allI [x] 1 && decide ((([x]:List Int).length:Int)=1))=allI [x] 1 by simp] at this;exact this)
   cases ha:allI [x] 1 with
   | true =>
    rw [ha] at HAl;have HE:=kp (rop_some (op:=11) (l:=[x]) (w:=w) (w':=w) (s:=1) (by unfold allI at ha;simp at ha;simp [opS,ha]) BR.out);clear ha;go_wp2_with fail
    refine(HAl.out _ BR.out).mono ?_;rintro e w' ⟨rfl,rfl⟩;go_wp2_with fail
    go_ret2;exact HE.out
   | false =>
    rw [ha] at HAl;have HE:=kp (rop_none (op:=11) (l:=[x]) (w:=w) (w':=w) (er:=33) (by unfold allI at ha;simp at ha;simp [opS];try exact ha) (.inr rfl) BR.out);clear ha;go_wp2_with fail
    refine(HAl.out _ BR.out).mono ?_;rintro e w' ⟨rfl,rfl⟩;go_wp2_with fail
    go_ret2;exact HE.out
theorem rop_2 {w:World} {A:Option Addr}{x y:Int} (c:Nat) (h:Cells w A (([x,y]:List Int).map (Value.int .i64))) :
  Calls Tryz.prog 85 #[.int .i8 2,.slice A 2 c] w (RopPost 2 [x,y] w):=by
 have HC:=kp h;have HNg:=kp (fun w' hn hb=>rop_none (op:=2) (l:=[x,y]) (w:=w) (w':=w') (er:=33) (opS_neg hn) (.inr rfl) hb);have HM:=kp (show ∀ W,Calls Tryz.prog 130 #[.int .i8 2] W fun e w'=>e=.returned (.int .i64 2)/\W=w' from fun W=>rmany_any 2 W);have BR:=kp (brq w);clear h
 go_enter Tryz.func85,Tryz.ntmps85
 go_wp2_with fail
 refine(HM.out _).mono ?_;rintro e w' ⟨rfl,rfl⟩;go_wp2_with fail
 go_loop [7] (fun v=>∃ k:Nat,k<=2/\v=.int .i64 k/\∀ j,j < k->¬ ([x,y]:List Int).getD j 0 < 0) (fun v=>2 - (intOf v).toNat)
 case atStart=>exact⟨0,Nat.zero_le _,rfl,fun j hj=>by omega⟩
 case round =>
  obtain ⟨k,hk,rfl,hto⟩:=hrel;have HTo:=kp hto;clear hto
  by_cases hlt:k < 2
  ·skip;have hlt2:(k:Int) < 2:=by omega
   obtain ⟨bk,ok,rfl,pk⟩:=cells_get HC.out (show k < ([x,y]:List Int).length by simpa using hlt)
   have HTk:=kp (show ¬ ([x,y]:List Int).getD k 0 < 0->∀ j,j < k+1->¬ ([x,y]:List Int).getD j 0 < 0 from fun he j hj=>by
    by_cases h:j < k
    ·exact HTo.out j h
    ·obtain rfl:j=k:=by omega
     exact he)
   have HNk:=kp (show([x,y]:List Int).getD k 0 < 0->([x,y]:List Int).any (fun x=>decide (x < 0))=true from fun he=>by
    cases hq:([x,y]:List Int).any (fun x=>decide (x < 0)) with
    | true=>rfl
    | false=>exact absurd he (any_neg.1 hq k (by simpa using hlt)))
   generalize ([x,y]:List Int).getD k 0=q at *
   by_cases hq:q < 0
   ·go_wp2_with fail
    go_ret2;exact HNg.out _ (HNk.out hq) BR.out
   ·have HQ:=kp (HTk.out hq);replace hq:=dfq hq;go_wp2_with fail
    go_round
    case rel=>exact⟨k+1,by omega,by go_num,HQ.out⟩
    case measure=>simp [intOf];omega
  ·obtain rfl:k=2:=by omega
   clear HNg HM hlt hk
   have HAl:=kp (show ∀ W,Below w.heap.size w W->Calls Tryz.prog 131 #[.slice A 2 c,.int .i64 2,.int .i64 0] W fun e w'=>e=.returned (.bool (allI [x,y] 0))/\W=w' from fun W hW=>by
    have:=ralike_any (w:=W) (l:=[x,y]) c 2 0 (HC.out.on hW) (by simp);rw [show(allI [x,y] 0 && decide ((([x,y]:List Int).length:Int)=2))=allI [x,y] 0 by simp] at this;exact this)
   cases ha:allI [x,y] 0 with
   | true =>
    rw [ha] at HAl;have HE:=kp (rop_some (op:=2) (l:=[x,y]) (w:=w) (w':=w) (s:=0) (by unfold allI at ha;simp at ha;simp [opS,ha]) BR.out);clear ha;go_wp2_with fail
    refine(HAl.out _ BR.out).mono ?_;rintro e w' ⟨rfl,rfl⟩;go_wp2_with fail
    go_ret2;exact HE.out
   | false =>
    rw [ha] at HAl;have HE:=kp (rop_none (op:=2) (l:=[x,y]) (w:=w) (w':=w) (er:=33) (by unfold allI at ha;simp at ha;simp [opS];try exact ha) (.inr rfl) BR.out);clear ha;go_wp2_with fail
    refine(HAl.out _ BR.out).mono ?_;rintro e w' ⟨rfl,rfl⟩;go_wp2_with fail
    go_ret2;exact HE.out
theorem rop_3 {w:World} {A:Option Addr}{x y:Int} (c:Nat) (h:Cells w A (([x,y]:List Int).map (Value.int .i64))) :
  Calls Tryz.prog 85 #[.int .i8 3,.slice A 2 c] w (RopPost 3 [x,y] w):=by
 have HC:=kp h;have HNg:=kp (fun w' hn hb=>rop_none (op:=3) (l:=[x,y]) (w:=w) (w':=w') (er:=33) (opS_neg hn) (.inr rfl) hb);have HM:=kp (show ∀ W,Calls Tryz.prog 130 #[.int .i8 3] W fun e w'=>e=.returned (.int .i64 2)/\W=w' from fun W=>rmany_any 3 W);have BR:=kp (brq w);clear h
 go_enter Tryz.func85,Tryz.ntmps85
 go_wp2_with fail
 refine(HM.out _).mono ?_;rintro e w' ⟨rfl,rfl⟩;go_wp2_with fail
 go_loop [7] (fun v=>∃ k:Nat,k<=2/\v=.int .i64 k/\∀ j,j < k->¬ ([x,y]:List Int).getD j 0 < 0) (fun v=>2 - (intOf v).toNat)
 case atStart=>exact⟨0,Nat.zero_le _,rfl,fun j hj=>by omega⟩
 case round =>
  obtain ⟨k,hk,rfl,hto⟩:=hrel;have HTo:=kp hto;clear hto
  by_cases hlt:k < 2
  ·skip;have hlt2:(k:Int) < 2:=by omega
   obtain ⟨bk,ok,rfl,pk⟩:=cells_get HC.out (show k < ([x,y]:List Int).length by simpa using hlt)
   have HTk:=kp (show ¬ ([x,y]:List Int).getD k 0 < 0->∀ j,j < k+1->¬ ([x,y]:List Int).getD j 0 < 0 from fun he j hj=>by
    by_cases h:j < k
    ·exact HTo.out j h
    ·obtain rfl:j=k:=by omega
     exact he)
   have HNk:=kp (show([x,y]:List Int).getD k 0 < 0->([x,y]:List Int).any (fun x=>decide (x < 0))=true from fun he=>by
    cases hq:([x,y]:List Int).any (fun x=>decide (x < 0)) with
    | true=>rfl
    | false=>exact absurd he (any_neg.1 hq k (by simpa using hlt)))
   generalize ([x,y]:List Int).getD k 0=q at *
   by_cases hq:q < 0
   ·go_wp2_with fail
    go_ret2;exact HNg.out _ (HNk.out hq) BR.out
   ·have HQ:=kp (HTk.out hq);replace hq:=dfq hq;go_wp2_with fail
    go_round
    case rel=>exact⟨k+1,by omega,by go_num,HQ.out⟩
    case measure=>simp [intOf];omega
  ·obtain rfl:k=2:=by omega
   clear HNg HM hlt hk
   have HAl:=kp (show ∀ W,Below w.heap.size w W->Calls Tryz.prog 131 #[.slice A 2 c,.int .i64 2,.int .i64 0] W fun e w'=>e=.returned (.bool (allI [x,y] 0))/\W=w' from fun W hW=>by
    have:=ralike_any (w:=W) (l:=[x,y]) c 2 0 (HC.out.on hW) (by simp);rw [show(allI [x,y] 0 && decide ((([x,y]:List Int).length:Int)=2))=allI [x,y] 0 by simp] at this;exact this)
   cases ha:allI [x,y] 0 with
   | true =>
    rw [ha] at HAl;have HE:=kp (rop_some (op:=3) (l:=[x,y]) (w:=w) (w':=w) (s:=0) (by unfold allI at ha;simp at ha;simp [opS,ha]) BR.out);clear ha;go_wp2_with fail
    refine(HAl.out _ BR.out).mono ?_;rintro e w' ⟨rfl,rfl⟩;go_wp2_with fail
    go_ret2;exact HE.out
   | false =>
    rw [ha] at HAl;have HE:=kp (rop_none (op:=3) (l:=[x,y]) (w:=w) (w':=w) (er:=33) (by unfold allI at ha;simp at ha;simp [opS];try exact ha) (.inr rfl) BR.out);clear ha;go_wp2_with fail
    refine(HAl.out _ BR.out).mono ?_;rintro e w' ⟨rfl,rfl⟩;go_wp2_with fail
    go_ret2;exact HE.out
theorem rop_4 {w:World} {A:Option Addr}{x y:Int} (c:Nat) (h:Cells w A (([x,y]:List Int).map (Value.int .i64))) :
  Calls Tryz.prog 85 #[.int .i8 4,.slice A 2 c] w (RopPost 4 [x,y] w):=by
 have HC:=kp h;have HNg:=kp (fun w' hn hb=>rop_none (op:=4) (l:=[x,y]) (w:=w) (w':=w') (er:=33) (opS_neg hn) (.inr rfl) hb);have HM:=kp (show ∀ W,Calls Tryz.prog 130 #[.int .i8 4] W fun e w'=>e=.returned (.int .i64 2)/\W=w' from fun W=>rmany_any 4 W);have BR:=kp (brq w);clear h
 go_enter Tryz.func85,Tryz.ntmps85
 go_wp2_with fail
 refine(HM.out _).mono ?_;rintro e w' ⟨rfl,rfl⟩;go_wp2_with fail
 go_loop [7] (fun v=>∃ k:Nat,k<=2/\v=.int .i64 k/\∀ j,j < k->¬ ([x,y]:List Int).getD j 0 < 0) (fun v=>2 - (intOf v).toNat)
 case atStart=>exact⟨0,Nat.zero_le _,rfl,fun j hj=>by omega⟩
 case round =>
  obtain ⟨k,hk,rfl,hto⟩:=hrel;have HTo:=kp hto;clear hto
  by_cases hlt:k < 2
  ·skip;have hlt2:(k:Int) < 2:=by omega
   obtain ⟨bk,ok,rfl,pk⟩:=cells_get HC.out (show k < ([x,y]:List Int).length by simpa using hlt)
   have HTk:=kp (show ¬ ([x,y]:List Int).getD k 0 < 0->∀ j,j < k+1->¬ ([x,y]:List Int).getD j 0 < 0 from fun he j hj=>by
    by_cases h:j < k
    ·exact HTo.out j h
    ·obtain rfl:j=k:=by omega
     exact he)
   have HNk:=kp (show([x,y]:List Int).getD k 0 < 0->([x,y]:List Int).any (fun x=>decide (x < 0))=true from fun he=>by
    cases hq:([x,y]:List Int).any (fun x=>decide (x < 0)) with
    | true=>rfl
    | false=>exact absurd he (any_neg.1 hq k (by simpa using hlt)))
   generalize ([x,y]:List Int).getD k 0=q at *
   by_cases hq:q < 0
   ·go_wp2_with fail
    go_ret2;exact HNg.out _ (HNk.out hq) BR.out
   ·have HQ:=kp (HTk.out hq);replace hq:=dfq hq;go_wp2_with fail
    go_round
    case rel=>exact⟨k+1,by omega,by go_num,HQ.out⟩
    case measure=>simp [intOf];omega
  ·obtain rfl:k=2:=by omega
   clear HNg HM hlt hk
   have HAl:=kp (show ∀ W,Below w.heap.size w W->Calls Tryz.prog 131 #[.slice A 2 c,.int .i64 2,.int .i64 0] W fun e w'=>e=.returned (.bool (allI [x,y] 0))/\W=w' from fun W hW=>by
    have:=ralike_any (w:=W) (l:=[x,y]) c 2 0 (HC.out.on hW) (by simp);rw [show(allI [x,y] 0 && decide ((([x,y]:List Int).length:Int)=2))=allI [x,y] 0 by simp] at this;exact this)
   cases ha:allI [x,y] 0 with
   | true =>
    rw [ha] at HAl;have HE:=kp (rop_some (op:=4) (l:=[x,y]) (w:=w) (w':=w) (s:=0) (by unfold allI at ha;simp at ha;simp [opS,ha]) BR.out);clear ha;go_wp2_with fail
    refine(HAl.out _ BR.out).mono ?_;rintro e w' ⟨rfl,rfl⟩;go_wp2_with fail
    go_ret2;exact HE.out
   | false =>
    rw [ha] at HAl;have HE:=kp (rop_none (op:=4) (l:=[x,y]) (w:=w) (w':=w) (er:=33) (by unfold allI at ha;simp at ha;simp [opS];try exact ha) (.inr rfl) BR.out);clear ha;go_wp2_with fail
    refine(HAl.out _ BR.out).mono ?_;rintro e w' ⟨rfl,rfl⟩;go_wp2_with fail
    go_ret2;exact HE.out
theorem rop_5 {w:World} {A:Option Addr}{x y:Int} (c:Nat) (h:Cells w A (([x,y]:List Int).map (Value.int .i64))) :
  Calls Tryz.prog 85 #[.int .i8 5,.slice A 2 c] w (RopPost 5 [x,y] w):=by
 have HC:=kp h;have HNg:=kp (fun w' hn hb=>rop_none (op:=5) (l:=[x,y]) (w:=w) (w':=w') (er:=33) (opS_neg hn) (.inr rfl) hb);have HM:=kp (show ∀ W,Calls Tryz.prog 130 #[.int .i8 5] W fun e w'=>e=.returned (.int .i64 2)/\W=w' from fun W=>rmany_any 5 W);have BR:=kp (brq w);clear h
 go_enter Tryz.func85,Tryz.ntmps85
 go_wp2_with fail
 refine(HM.out _).mono ?_;rintro e w' ⟨rfl,rfl⟩;go_wp2_with fail
 go_loop [7] (fun v=>∃ k:Nat,k<=2/\v=.int .i64 k/\∀ j,j < k->¬ ([x,y]:List Int).getD j 0 < 0) (fun v=>2 - (intOf v).toNat)
 case atStart=>exact⟨0,Nat.zero_le _,rfl,fun j hj=>by omega⟩
 case round =>
  obtain ⟨k,hk,rfl,hto⟩:=hrel;have HTo:=kp hto;clear hto
  by_cases hlt:k < 2
  ·skip;have hlt2:(k:Int) < 2:=by omega
   obtain ⟨bk,ok,rfl,pk⟩:=cells_get HC.out (show k < ([x,y]:List Int).length by simpa using hlt)
   have HTk:=kp (show ¬ ([x,y]:List Int).getD k 0 < 0->∀ j,j < k+1->¬ ([x,y]:List Int).getD j 0 < 0 from fun he j hj=>by
    by_cases h:j < k
    ·exact HTo.out j h
    ·obtain rfl:j=k:=by omega
     exact he)
   have HNk:=kp (show([x,y]:List Int).getD k 0 < 0->([x,y]:List Int).any (fun x=>decide (x < 0))=true from fun he=>by
    cases hq:([x,y]:List Int).any (fun x=>decide (x < 0)) with
    | true=>rfl
    | false=>exact absurd he (any_neg.1 hq k (by simpa using hlt)))
   generalize ([x,y]:List Int).getD k 0=q at *
   by_cases hq:q < 0
   ·go_wp2_with fail
    go_ret2;exact HNg.out _ (HNk.out hq) BR.out
   ·have HQ:=kp (HTk.out hq);replace hq:=dfq hq;go_wp2_with fail
    go_round
    case rel=>exact⟨k+1,by omega,by go_num,HQ.out⟩
    case measure=>simp [intOf];omega
  ·obtain rfl:k=2:=by omega
   clear HNg HM hlt hk
   have HAl:=kp (show ∀ W,Below w.heap.size w W->Calls Tryz.prog 131 #[.slice A 2 c,.int .i64 2,.int .i64 0] W fun e w'=>e=.returned (.bool (allI [x,y] 0))/\W=w' from fun W hW=>by
    have:=ralike_any (w:=W) (l:=[x,y]) c 2 0 (HC.out.on hW) (by simp);rw [show(allI [x,y] 0 && decide ((([x,y]:List Int).length:Int)=2))=allI [x,y] 0 by simp] at this;exact this)
   cases ha:allI [x,y] 0 with
   | true =>
    rw [ha] at HAl;have HE:=kp (rop_some (op:=5) (l:=[x,y]) (w:=w) (w':=w) (s:=0) (by unfold allI at ha;simp at ha;simp [opS,ha]) BR.out);clear ha;go_wp2_with fail
    refine(HAl.out _ BR.out).mono ?_;rintro e w' ⟨rfl,rfl⟩;go_wp2_with fail
    go_ret2;exact HE.out
   | false =>
    rw [ha] at HAl;have HE:=kp (rop_none (op:=5) (l:=[x,y]) (w:=w) (w':=w) (er:=33) (by unfold allI at ha;simp at ha;simp [opS];try exact ha) (.inr rfl) BR.out);clear ha;go_wp2_with fail
    refine(HAl.out _ BR.out).mono ?_;rintro e w' ⟨rfl,rfl⟩;go_wp2_with fail
    go_ret2;exact HE.out
theorem rop_8 {w:World} {A:Option Addr}{x y:Int} (c:Nat) (h:Cells w A (([x,y]:List Int).map (Value.int .i64))) :
  Calls Tryz.prog 85 #[.int .i8 8,.slice A 2 c] w (RopPost 8 [x,y] w):=by
 have HC:=kp h;have HNg:=kp (fun w' hn hb=>rop_none (op:=8) (l:=[x,y]) (w:=w) (w':=w') (er:=33) (opS_neg hn) (.inr rfl) hb);have HM:=kp (show ∀ W,Calls Tryz.prog 130 #[.int .i8 8] W fun e w'=>e=.returned (.int .i64 2)/\W=w' from fun W=>rmany_any 8 W);have BR:=kp (brq w);clear h
 go_enter Tryz.func85,Tryz.ntmps85
 go_wp2_with fail
 refine(HM.out _).mono ?_;rintro e w' ⟨rfl,rfl⟩;go_wp2_with fail
 go_loop [7] (fun v=>∃ k:Nat,k<=2/\v=.int .i64 k/\∀ j,j < k->¬ ([x,y]:List Int).getD j 0 < 0) (fun v=>2 - (intOf v).toNat)
 case atStart=>exact⟨0,Nat.zero_le _,rfl,fun j hj=>by omega⟩
 case round =>
  obtain ⟨k,hk,rfl,hto⟩:=hrel;have HTo:=kp hto;clear hto
  by_cases hlt:k < 2
  ·skip;have hlt2:(k:Int) < 2:=by omega
   obtain ⟨bk,ok,rfl,pk⟩:=cells_get HC.out (show k < ([x,y]:List Int).length by simpa using hlt)
   have HTk:=kp (show ¬ ([x,y]:List Int).getD k 0 < 0->∀ j,j < k+1->¬ ([x,y]:List Int).getD j 0 < 0 from fun he j hj=>by
    by_cases h:j < k
    ·exact HTo.out j h
    ·obtain rfl:j=k:=by omega
     exact he)
   have HNk:=kp (show([x,y]:List Int).getD k 0 < 0->([x,y]:List Int).any (fun x=>decide (x < 0))=true from fun he=>by
    cases hq:([x,y]:List Int).any (fun x=>decide (x < 0)) with
    | true=>rfl
    | false=>exact absurd he (any_neg.1 hq k (by simpa using hlt)))
   generalize ([x,y]:List Int).getD k 0=q at *
   by_cases hq:q < 0
   ·go_wp2_with fail
    go_ret2;exact HNg.out _ (HNk.out hq) BR.out
   ·have HQ:=kp (HTk.out hq);replace hq:=dfq hq;go_wp2_with fail
    go_round
    case rel=>exact⟨k+1,by omega,by go_num,HQ.out⟩
    case measure=>simp [intOf];omega
  ·obtain rfl:k=2:=by omega
   clear HNg HM hlt hk
   have HAl:=kp (show ∀ W,Below w.heap.size w W->Calls Tryz.prog 131 #[.slice A 2 c,.int .i64 2,.int .i64 1] W fun e w'=>e=.returned (.bool (allI [x,y] 1))/\W=w' from fun W hW=>by
    have:=ralike_any (w:=W) (l:=[x,y]) c 2 1 (HC.out.on hW) (by simp);rw [show(allI [x,y] 1 && decide ((([x,y]:List Int).length:Int)=2))=allI [x,y] 1 by simp] at this;exact this)
   cases ha:allI [x,y] 1 with
   | true =>
    rw [ha] at HAl;have HE:=kp (rop_some (op:=8) (l:=[x,y]) (w:=w) (w':=w) (s:=0) (by unfold allI at ha;simp at ha;simp [opS,ha]) BR.out);clear ha;go_wp2_with fail
    refine(HAl.out _ BR.out).mono ?_;rintro e w' ⟨rfl,rfl⟩;go_wp2_with fail
    go_ret2;exact HE.out
   | false =>
    rw [ha] at HAl;have HE:=kp (rop_none (op:=8) (l:=[x,y]) (w:=w) (w':=w) (er:=33) (by unfold allI at ha;simp at ha;simp [opS];try exact ha) (.inr rfl) BR.out);clear ha;go_wp2_with fail
    refine(HAl.out _ BR.out).mono ?_;rintro e w' ⟨rfl,rfl⟩;go_wp2_with fail
    go_ret2;exact HE.out
theorem rop_9 {w:World} {A:Option Addr}{x y:Int} (c:Nat) (h:Cells w A (([x,y]:List Int).map (Value.int .i64))) :
  Calls Tryz.prog 85 #[.int .i8 9,.slice A 2 c] w (RopPost 9 [x,y] w):=by
 have HC:=kp h;have HNg:=kp (fun w' hn hb=>rop_none (op:=9) (l:=[x,y]) (w:=w) (w':=w') (er:=33) (opS_neg hn) (.inr rfl) hb);have HM:=kp (show ∀ W,Calls Tryz.prog 130 #[.int .i8 9] W fun e w'=>e=.returned (.int .i64 2)/\W=w' from fun W=>rmany_any 9 W);have BR:=kp (brq w);clear h
 go_enter Tryz.func85,Tryz.ntmps85
 go_wp2_with fail
 refine(HM.out _).mono ?_;rintro e w' ⟨rfl,rfl⟩;go_wp2_with fail
 go_loop [7] (fun v=>∃ k:Nat,k<=2/\v=.int .i64 k/\∀ j,j < k->¬ ([x,y]:List Int).getD j 0 < 0) (fun v=>2 - (intOf v).toNat)
 case atStart=>exact⟨0,Nat.zero_le _,rfl,fun j hj=>by omega⟩
 case round =>
  obtain ⟨k,hk,rfl,hto⟩:=hrel;have HTo:=kp hto;clear hto
  by_cases hlt:k < 2
  ·skip;have hlt2:(k:Int) < 2:=by omega
   obtain ⟨bk,ok,rfl,pk⟩:=cells_get HC.out (show k < ([x,y]:List Int).length by simpa using hlt)
   have HTk:=kp (show ¬ ([x,y]:List Int).getD k 0 < 0->∀ j,j < k+1->¬ ([x,y]:List Int).getD j 0 < 0 from fun he j hj=>by
    by_cases h:j < k
    ·exact HTo.out j h
    ·obtain rfl:j=k:=by omega
     exact he)
   have HNk:=kp (show([x,y]:List Int).getD k 0 < 0->([x,y]:List Int).any (fun x=>decide (x < 0))=true from fun he=>by
    cases hq:([x,y]:List Int).any (fun x=>decide (x < 0)) with
    | true=>rfl
    | false=>exact absurd he (any_neg.1 hq k (by simpa using hlt)))
   generalize ([x,y]:List Int).getD k 0=q at *
   by_cases hq:q < 0
   ·go_wp2_with fail
    go_ret2;exact HNg.out _ (HNk.out hq) BR.out
   ·have HQ:=kp (HTk.out hq);replace hq:=dfq hq;go_wp2_with fail
    go_round
    case rel=>exact⟨k+1,by omega,by go_num,HQ.out⟩
    case measure=>simp [intOf];omega
  ·obtain rfl:k=2:=by omega
   clear HNg HM hlt hk
   have HAl:=kp (show ∀ W,Below w.heap.size w W->Calls Tryz.prog 131 #[.slice A 2 c,.int .i64 2,.int .i64 1] W fun e w'=>e=.returned (.bool (allI [x,y] 1))/\W=w' from fun W hW=>by
    have:=ralike_any (w:=W) (l:=[x,y]) c 2 1 (HC.out.on hW) (by simp);rw [show(allI [x,y] 1 && decide ((([x,y]:List Int).length:Int)=2))=allI [x,y] 1 by simp] at this;exact this)
   cases ha:allI [x,y] 1 with
   | true =>
    rw [ha] at HAl;have HE:=kp (rop_some (op:=9) (l:=[x,y]) (w:=w) (w':=w) (s:=0) (by unfold allI at ha;simp at ha;simp [opS,ha]) BR.out);clear ha;go_wp2_with fail
    refine(HAl.out _ BR.out).mono ?_;rintro e w' ⟨rfl,rfl⟩;go_wp2_with fail
    go_ret2;exact HE.out
   | false =>
    rw [ha] at HAl;have HE:=kp (rop_none (op:=9) (l:=[x,y]) (w:=w) (w':=w) (er:=33) (by unfold allI at ha;simp at ha;simp [opS];try exact ha) (.inr rfl) BR.out);clear ha;go_wp2_with fail
    refine(HAl.out _ BR.out).mono ?_;rintro e w' ⟨rfl,rfl⟩;go_wp2_with fail
    go_ret2;exact HE.out
theorem rop_12 {w:World} {A:Option Addr}{x y:Int} (c:Nat) (h:Cells w A (([x,y]:List Int).map (Value.int .i64))) :
  Calls Tryz.prog 85 #[.int .i8 12,.slice A 2 c] w (RopPost 12 [x,y] w):=by
 have HC:=kp h;have HNg:=kp (fun w' hn hb=>rop_none (op:=12) (l:=[x,y]) (w:=w) (w':=w') (er:=33) (opS_neg hn) (.inr rfl) hb);have HM:=kp (show ∀ W,Calls Tryz.prog 130 #[.int .i8 12] W fun e w'=>e=.returned (.int .i64 2)/\W=w' from fun W=>rmany_any 12 W);have BR:=kp (brq w);clear h
 go_enter Tryz.func85,Tryz.ntmps85
 go_wp2_with fail
 refine(HM.out _).mono ?_;rintro e w' ⟨rfl,rfl⟩;go_wp2_with fail
 go_loop [7] (fun v=>∃ k:Nat,k<=2/\v=.int .i64 k/\∀ j,j < k->¬ ([x,y]:List Int).getD j 0 < 0) (fun v=>2 - (intOf v).toNat)
 case atStart=>exact⟨0,Nat.zero_le _,rfl,fun j hj=>by omega⟩
 case round =>
  obtain ⟨k,hk,rfl,hto⟩:=hrel;have HTo:=kp hto;clear hto
  by_cases hlt:k < 2
  ·skip;have hlt2:(k:Int) < 2:=by omega
   obtain ⟨bk,ok,rfl,pk⟩:=cells_get HC.out (show k < ([x,y]:List Int).length by simpa using hlt)
   have HTk:=kp (show ¬ ([x,y]:List Int).getD k 0 < 0->∀ j,j < k+1->¬ ([x,y]:List Int).getD j 0 < 0 from fun he j hj=>by
    by_cases h:j < k
    ·exact HTo.out j h
    ·obtain rfl:j=k:=by omega
     exact he)
   have HNk:=kp (show([x,y]:List Int).getD k 0 < 0->([x,y]:List Int).any (fun x=>decide (x < 0))=true from fun he=>by
    cases hq:([x,y]:List Int).any (fun x=>decide (x < 0)) with
    | true=>rfl
    | false=>exact absurd he (any_neg.1 hq k (by simpa using hlt)))
   generalize ([x,y]:List Int).getD k 0=q at *
   by_cases hq:q < 0
   ·go_wp2_with fail
    go_ret2;exact HNg.out _ (HNk.out hq) BR.out
   ·have HQ:=kp (HTk.out hq);replace hq:=dfq hq;go_wp2_with fail
    go_round
    case rel=>exact⟨k+1,by omega,by go_num,HQ.out⟩
    case measure=>simp [intOf];omega
  ·obtain rfl:k=2:=by omega
   clear HNg HM hlt hk
   have HAl:=kp (show ∀ W,Below w.heap.size w W->Calls Tryz.prog 131 #[.slice A 2 c,.int .i64 2,.int .i64 1] W fun e w'=>e=.returned (.bool (allI [x,y] 1))/\W=w' from fun W hW=>by
    have:=ralike_any (w:=W) (l:=[x,y]) c 2 1 (HC.out.on hW) (by simp);rw [show(allI [x,y] 1 && decide ((([x,y]:List Int).length:Int)=2))=allI [x,y] 1 by simp] at this;exact this)
   cases ha:allI [x,y] 1 with
   | true =>
    rw [ha] at HAl;have HE:=kp (rop_some (op:=12) (l:=[x,y]) (w:=w) (w':=w) (s:=0) (by unfold allI at ha;simp at ha;simp [opS,ha]) BR.out);clear ha;go_wp2_with fail
    refine(HAl.out _ BR.out).mono ?_;rintro e w' ⟨rfl,rfl⟩;go_wp2_with fail
    go_ret2;exact HE.out
   | false =>
    rw [ha] at HAl;have HE:=kp (rop_none (op:=12) (l:=[x,y]) (w:=w) (w':=w) (er:=33) (by unfold allI at ha;simp at ha;simp [opS];try exact ha) (.inr rfl) BR.out);clear ha;go_wp2_with fail
    refine(HAl.out _ BR.out).mono ?_;rintro e w' ⟨rfl,rfl⟩;go_wp2_with fail
    go_ret2;exact HE.out
theorem rop_6 {w:World} {A:Option Addr}{x y:Int} (c:Nat) (h:Cells w A (([x,y]:List Int).map (Value.int .i64))) :
  Calls Tryz.prog 85 #[.int .i8 6,.slice A 2 c] w (RopPost 6 [x,y] w):=by
 have HC:=kp h;have HNg:=kp (fun w' hn hb=>rop_none (op:=6) (l:=[x,y]) (w:=w) (w':=w') (er:=33) (opS_neg hn) (.inr rfl) hb);have HM:=kp (show ∀ W,Calls Tryz.prog 130 #[.int .i8 6] W fun e w'=>e=.returned (.int .i64 2)/\W=w' from fun W=>rmany_any 6 W);have BR:=kp (brq w);clear h
 go_enter Tryz.func85,Tryz.ntmps85
 go_wp2_with fail
 refine(HM.out _).mono ?_;rintro e w' ⟨rfl,rfl⟩;go_wp2_with fail
 go_loop [7] (fun v=>∃ k:Nat,k<=2/\v=.int .i64 k/\∀ j,j < k->¬ ([x,y]:List Int).getD j 0 < 0) (fun v=>2 - (intOf v).toNat)
 case atStart=>exact⟨0,Nat.zero_le _,rfl,fun j hj=>by omega⟩
 case round =>
  obtain ⟨k,hk,rfl,hto⟩:=hrel;have HTo:=kp hto;clear hto
  by_cases hlt:k < 2
  ·skip;have hlt2:(k:Int) < 2:=by omega
   obtain ⟨bk,ok,rfl,pk⟩:=cells_get HC.out (show k < ([x,y]:List Int).length by simpa using hlt)
   have HTk:=kp (show ¬ ([x,y]:List Int).getD k 0 < 0->∀ j,j < k+1->¬ ([x,y]:List Int).getD j 0 < 0 from fun he j hj=>by
    by_cases h:j < k
    ·exact HTo.out j h
    ·obtain rfl:j=k:=by omega
     exact he)
   have HNk:=kp (show([x,y]:List Int).getD k 0 < 0->([x,y]:List Int).any (fun x=>decide (x < 0))=true from fun he=>by
    cases hq:([x,y]:List Int).any (fun x=>decide (x < 0)) with
    | true=>rfl
    | false=>exact absurd he (any_neg.1 hq k (by simpa using hlt)))
   generalize ([x,y]:List Int).getD k 0=q at *
   by_cases hq:q < 0
   ·go_wp2_with fail
    go_ret2;exact HNg.out _ (HNk.out hq) BR.out
   ·have HQ:=kp (HTk.out hq);replace hq:=dfq hq;go_wp2_with fail
    go_round
    case rel=>exact⟨k+1,by omega,by go_num,HQ.out⟩
    case measure=>simp [intOf];omega
  ·obtain rfl:k=2:=by omega
   clear HNg HM hlt hk;obtain ⟨b0,o0,rfl,p0⟩:=cells_get (k:=0) HC.out (by simp);obtain ⟨b1,o1,hA,p1⟩:=cells_get (k:=1) HC.out (by simp);obtain ⟨rfl,rfl⟩:=aiq hA;have hx:=HTo.out 0 (by omega);rw [show([x,y]:List Int).getD 0 0=x from rfl] at p0 hx;rw [show([x,y]:List Int).getD 1 0=y from rfl] at p1;rw [Nat.add_zero] at p0;have P0:=kp p0;have P1:=kp p1;have HEq:=kp (show ∀ w',Below w.heap.size w w'->x=y->RopPost 6 [x,y] w (.returned (.tuple #[.int .i64 0,.int .i64 0])) w' from fun w' hb e=>rop_some (by simp [opS,e];omega) hb);have HNe:=kp (show ∀ w',Below w.heap.size w w'->¬ x=y->RopPost 6 [x,y] w (.returned (.tuple #[.int .i64 0,.int .i64 33])) w' from fun w' hb e=>rop_none (by simp [opS,e]) (.inr rfl) hb);clear hx p0 p1 HTo;have h0:(0:Int) < 2:=by omega
   by_cases hxy:x=y
   ·have hxy':(x == y)=true:=by simp [hxy]
    have HE:=kp (HEq.out w.drew BR.out.drew hxy);clear hxy HEq HNe;go_wp2_with fail
    refine wp_region_held_drew (S:=fun W=>W.cell? ⟨b0,o0,none⟩=some (.int .i64 x)/\W.cell? ⟨b0,o0+1,none⟩=some (.int .i64 y)) (by kernel_rfl) (⟨P0.out,P1.out⟩) (fun hHeld=>?_);refine plz [0,1,2,3,4,5,6,7] ?_;iterate 8 (refine tnz (v:=?_) ?_ ?_;rotate_left;(focus first | ((intro w hSw;go_simp;try with_reducible rfl);done) | ((intro w hSw;(have p0:=hSw.1;go_simp;try with_reducible rfl));done) | ((intro w hSw;(have p1:=hSw.2;go_simp;try with_reducible rfl));done));try simp only [pt])
    refine pzz ?_;refine dnz ?_;clear hHeld;go_wp2_with fail
    go_ret2;exact HE.out
   ·have hxy':(x == y)=false:=by simp [hxy]
    have HE:=kp (HNe.out w.drew BR.out.drew hxy);clear hxy HEq HNe;go_wp2_with fail
    refine wp_region_held_drew (S:=fun W=>W.cell? ⟨b0,o0,none⟩=some (.int .i64 x)/\W.cell? ⟨b0,o0+1,none⟩=some (.int .i64 y)) (by kernel_rfl) (⟨P0.out,P1.out⟩) (fun hHeld=>?_);refine plz [0,1,2,3,4,5,6,7] ?_;iterate 8 (refine tnz (v:=?_) ?_ ?_;rotate_left;(focus first | ((intro w hSw;go_simp;try with_reducible rfl);done) | ((intro w hSw;(have p0:=hSw.1;go_simp;try with_reducible rfl));done) | ((intro w hSw;(have p1:=hSw.2;go_simp;try with_reducible rfl));done));try simp only [pt])
    refine pzz ?_;refine dnz ?_;clear hHeld;go_wp2_with fail
    go_ret2;exact HE.out
theorem rop_7 {w:World} {A:Option Addr}{x y z:Int} (c:Nat) (h:Cells w A (([x,y,z]:List Int).map (Value.int .i64))) :
  Calls Tryz.prog 85 #[.int .i8 7,.slice A 3 c] w (RopPost 7 [x,y,z] w):=by
 have HC:=kp h;have HNg:=kp (fun w' hn hb=>rop_none (op:=7) (l:=[x,y,z]) (w:=w) (w':=w') (er:=33) (opS_neg hn) (.inr rfl) hb);have HM:=kp (show ∀ W,Calls Tryz.prog 130 #[.int .i8 7] W fun e w'=>e=.returned (.int .i64 3)/\W=w' from fun W=>rmany_any 7 W);have BR:=kp (brq w);clear h
 go_enter Tryz.func85,Tryz.ntmps85
 go_wp2_with fail
 refine(HM.out _).mono ?_;rintro e w' ⟨rfl,rfl⟩;go_wp2_with fail
 go_loop [7] (fun v=>∃ k:Nat,k<=3/\v=.int .i64 k/\∀ j,j < k->¬ ([x,y,z]:List Int).getD j 0 < 0) (fun v=>3 - (intOf v).toNat)
 case atStart=>exact⟨0,Nat.zero_le _,rfl,fun j hj=>by omega⟩
 case round =>
  obtain ⟨k,hk,rfl,hto⟩:=hrel;have HTo:=kp hto;clear hto
  by_cases hlt:k < 3
  ·skip;have hlt2:(k:Int) < 3:=by omega
   obtain ⟨bk,ok,rfl,pk⟩:=cells_get HC.out (show k < ([x,y,z]:List Int).length by simpa using hlt)
   have HTk:=kp (show ¬ ([x,y,z]:List Int).getD k 0 < 0->∀ j,j < k+1->¬ ([x,y,z]:List Int).getD j 0 < 0 from fun he j hj=>by
    by_cases h:j < k
    ·exact HTo.out j h
    ·obtain rfl:j=k:=by omega
     exact he)
   have HNk:=kp (show([x,y,z]:List Int).getD k 0 < 0->([x,y,z]:List Int).any (fun x=>decide (x < 0))=true from fun he=>by
    cases hq:([x,y,z]:List Int).any (fun x=>decide (x < 0)) with
    | true=>rfl
    | false=>exact absurd he (any_neg.1 hq k (by simpa using hlt)))
   generalize ([x,y,z]:List Int).getD k 0=q at *
   by_cases hq:q < 0
   ·go_wp2_with fail
    go_ret2;exact HNg.out _ (HNk.out hq) BR.out
   ·have HQ:=kp (HTk.out hq);replace hq:=dfq hq;go_wp2_with fail
    go_round
    case rel=>exact⟨k+1,by omega,by go_num,HQ.out⟩
    case measure=>simp [intOf];omega
  ·obtain rfl:k=3:=by omega
   clear HNg HM hlt hk;obtain ⟨b0,o0,rfl,p0⟩:=cells_get (k:=0) HC.out (by simp);obtain ⟨b1,o1,hA,p1⟩:=cells_get (k:=1) HC.out (by simp);obtain ⟨rfl,rfl⟩:=aiq hA;obtain ⟨b1,o1,hA,p2⟩:=cells_get (k:=2) HC.out (by simp);obtain ⟨rfl,rfl⟩:=aiq hA;have hy:=HTo.out 1 (by omega);rw [show([x,y,z]:List Int).getD 0 0=x from rfl] at p0;rw [show([x,y,z]:List Int).getD 1 0=y from rfl] at p1 hy;rw [show([x,y,z]:List Int).getD 2 0=z from rfl] at p2;rw [Nat.add_zero] at p0;have P0:=kp p0;have P1:=kp p1;have P2:=kp p2;have HEq:=kp (show ∀ w',Below w.heap.size w w'->x=0->y=z->RopPost 7 [x,y,z] w (.returned (.tuple #[.int .i64 y,.int .i64 0])) w' from fun w' hb e1 e2=>rop_some (by simp [opS,e1,e2];omega) hb);have HNe:=kp (show ∀ w',Below w.heap.size w w'->¬ (x=0/\y=z)->RopPost 7 [x,y,z] w (.returned (.tuple #[.int .i64 0,.int .i64 33])) w' from fun w' hb e=>rop_none (by simp only [opS];simp;intro h1 h2 h3;exact e ⟨h1,h3⟩) (.inr rfl) hb);clear hy p0 p1 p2 HTo;have h0:(0:Int) < 3:=by omega
   by_cases hx:x=0
   ·have hx':(x == 0)=true:=by simp [hx]
    by_cases hyz:y=z
    ·have hyz':(y == z)=true:=by simp [hyz]
     have HE:=kp (HEq.out w.drew BR.out.drew hx hyz);clear hx hyz HEq HNe;go_wp2_with fail
     refine wp_region_held_drew (S:=fun W=>W.cell? ⟨b0,o0,none⟩=some (.int .i64 x)/\W.cell? ⟨b0,o0+1,none⟩=some (.int .i64 y)/\W.cell? ⟨b0,o0+2,none⟩=some (.int .i64 z)) (by kernel_rfl) (⟨P0.out,P1.out,P2.out⟩) (fun hHeld=>?_);refine plz [0,1,2,3,4,5,6,7,8,9,10,11,12,13] ?_;iterate 14 (refine tnz (v:=?_) ?_ ?_;rotate_left;(focus first | ((intro w hSw;go_simp;try with_reducible rfl);done) | ((intro w hSw;(have p0:=hSw.1;go_simp;try with_reducible rfl));done) | ((intro w hSw;(have p1:=hSw.2.1;go_simp;try with_reducible rfl));done) | ((intro w hSw;(have p2:=hSw.2.2;go_simp;try with_reducible rfl));done));try simp only [pt])
     refine pzz ?_;refine dnz ?_;clear hHeld;have p1:=P1.out;generalize hwd:World.drew _=wd at *;have p1':wd.cell? ⟨b0,o0+1,none⟩=some (.int .i64 y):=by rw [← hwd];exact P1.out
     clear hwd p1;go_wp2_with fail
     go_ret2;exact HE.out
    ·have hyz':(y == z)=false:=by simp [hyz]
     have HE:=kp (HNe.out w.drew BR.out.drew (fun h=>hyz h.2));clear hx hyz HEq HNe;go_wp2_with fail
     refine wp_region_held_drew (S:=fun W=>W.cell? ⟨b0,o0,none⟩=some (.int .i64 x)/\W.cell? ⟨b0,o0+1,none⟩=some (.int .i64 y)/\W.cell? ⟨b0,o0+2,none⟩=some (.int .i64 z)) (by kernel_rfl) (⟨P0.out,P1.out,P2.out⟩) (fun hHeld=>?_);refine plz [0,1,2,3,4,5,6,7,8,9,10,11,12,13] ?_;iterate 14 (refine tnz (v:=?_) ?_ ?_;rotate_left;(focus first | ((intro w hSw;go_simp;try with_reducible rfl);done) | ((intro w hSw;(have p0:=hSw.1;go_simp;try with_reducible rfl));done) | ((intro w hSw;(have p1:=hSw.2.1;go_simp;try with_reducible rfl));done) | ((intro w hSw;(have p2:=hSw.2.2;go_simp;try with_reducible rfl));done));try simp only [pt])
     refine pzz ?_;refine dnz ?_;clear hHeld;have p1:=P1.out;generalize hwd:World.drew _=wd at *;have p1':wd.cell? ⟨b0,o0+1,none⟩=some (.int .i64 y):=by rw [← hwd];exact P1.out
     clear hwd p1;go_wp2_with fail
     go_ret2;exact HE.out
   ·have hx':(x == 0)=false:=by simp [hx]
    have HE:=kp (HNe.out w.drew BR.out.drew (fun h=>hx h.1));clear hx HEq HNe;go_wp2_with fail
    refine wp_region_held_drew (S:=fun W=>W.cell? ⟨b0,o0,none⟩=some (.int .i64 x)/\W.cell? ⟨b0,o0+1,none⟩=some (.int .i64 y)/\W.cell? ⟨b0,o0+2,none⟩=some (.int .i64 z)) (by kernel_rfl) (⟨P0.out,P1.out,P2.out⟩) (fun hHeld=>?_);refine plz [0,1,2,3,4] ?_;iterate 5 (refine tnz (v:=?_) ?_ ?_;rotate_left;(focus first | ((intro w hSw;go_simp;try with_reducible rfl);done) | ((intro w hSw;(have p0:=hSw.1;go_simp;try with_reducible rfl));done));try simp only [pt])
    refine pzz ?_;refine sk 5 ?_;try simp only [pt]
    refine sk 6 ?_;try simp only [pt]
    refine sk 7 ?_;try simp only [pt]
    refine sk 8 ?_;try simp only [pt]
    refine sk 9 ?_;try simp only [pt]
    refine sk 10 ?_;try simp only [pt]
    refine sk 11 ?_;try simp only [pt]
    refine plz [12,13] ?_;iterate 2 (refine tnz (v:=?_) ?_ ?_;rotate_left;(focus (intro w hSw;go_simp;try with_reducible rfl));try simp only [pt])
    refine pzz ?_;refine dnz ?_;clear hHeld;have p1:=P1.out;generalize hwd:World.drew _=wd at *;have p1':wd.cell? ⟨b0,o0+1,none⟩=some (.int .i64 y):=by rw [← hwd];exact P1.out
    clear hwd p1;go_wp2_with fail
    go_ret2;exact HE.out
theorem rop_any {w:World} {A:Option Addr} {l:List Int} (c:Nat) (op:Int) (h:Cells w A (l.map (Value.int .i64))) (hl:l.length<=1000000) :
  Calls Tryz.prog 85 #[.int .i8 op,.slice A l.length c] w (RopPost op l w):=by
 by_cases hb:rmanyN op < 0\/(l.length:Int)≠rmanyN op
 ·exact rop_bad c op hb
 have h0:¬ rmanyN op < 0:=fun e=>hb (.inl e);have hn:(l.length:Int)=rmanyN op:=Decidable.byContradiction fun e=>hb (.inr e)
 have ho:(op=0\/op=10)\/(op=1\/op=11)\/(op=2\/op=3\/op=4\/op=5\/op=6\/op=8\/op=9\/op=12)\/op=7:=by
  unfold rmanyN at h0
  repeat' split at h0
  all_goals first | omega | (exfalso;exact h0 (by decide))
 have one:∀ n:Nat,(n:Int)=(l.length:Int)->l.length=n:=fun n e=>by omega
 rcases ho with ho | ho | ho | ho
 ·have e:rmanyN op=0:=by rcases ho with rfl | rfl <;> decide
  obtain rfl:l=[]:=List.length_eq_zero_iff.1 (by omega);rcases ho with rfl | rfl
  ·exact rop_0 c h
  ·exact rop_10 c h
 ·have e:rmanyN op=1:=by rcases ho with rfl | rfl <;> decide
  obtain ⟨x,rfl⟩:=List.length_eq_one_iff.1 (show l.length=1 by omega);rcases ho with rfl | rfl
  ·exact rop_1 c h
  ·exact rop_11 c h
 ·have e:rmanyN op=2:=by rcases ho with rfl | rfl | rfl | rfl | rfl | rfl | rfl | rfl <;> decide
  match l,show l.length=2 by omega,h with
  | [x,y],_,h =>
   rcases ho with rfl | rfl | rfl | rfl | rfl | rfl | rfl | rfl
   ·exact rop_2 c h
   ·exact rop_3 c h
   ·exact rop_4 c h
   ·exact rop_5 c h
   ·exact rop_6 c h
   ·exact rop_8 c h
   ·exact rop_9 c h
   ·exact rop_12 c h
 ·have e:rmanyN op=3:=by subst ho;decide
  subst ho
  match l,show l.length=3 by omega,h with
  | [x,y,z],_,h=>exact rop_7 c h
end El
end Go.Proofs.YtpmdcckapddchaaGreatDoor
