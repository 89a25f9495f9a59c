import Derived.Test.YtpmdcckapddchaaGreatDoorShort
import Derived.Test.YtpmdcckapddchaaGreatDoorMb
/- merged by wip/merge.py from: SexpRMay -/
set_option maxRecDepth 100000
set_option maxHeartbeats 51200000
namespace Go.Proofs.YtpmdcckapddchaaGreatDoor
namespace Dt
open Go.RowKit
theorem rkey_any (s:ByteArray) (w:World) (hs:(s.size:Int)<=140737488351232) :
  Calls Tryz.prog 188 #[.string s] w fun e w'=>e=.returned (.bool (keyB (Lx.bs s)))/\w=w':=by
 have HM:=kp (show keyB (Lx.bs s)=(((Lx.bs s).all fun c=>Lx.signI c.toNat) && !s.toList.isEmpty && decide (s.size<=100)) by unfold keyB;rw [Lx.bs_length,Lx.bs_toList])
 cases he:s.toList.isEmpty with
 | true =>
  have he2:s.toList=[]:=List.isEmpty_iff.1 he;replace HM:=kp (show keyB (Lx.bs s)=false by rw [HM.out,he];simp);clear he
  go_enter Tryz.func188,Tryz.ntmps188
  go_wp2_with fail
  go_ret;exact⟨ret_bool HM.out.symm,rfl⟩
 | false =>
  replace HM:=kp (show keyB (Lx.bs s)=(((Lx.bs s).all fun c=>Lx.signI c.toNat) && decide (s.size<=100)) by rw [HM.out,he];simp)
  by_cases h1:s.size<=100
  ·have h:decide ((100:Int) < (s.size:Int))=false:=dfq (by omega);replace HM:=kp (show keyB (Lx.bs s)=((Lx.bs s).all fun c=>Lx.signI c.toNat) by rw [HM.out];simp [h1])
   go_enter Tryz.func188,Tryz.ntmps188
   go_wp2_with fail
   go_loop [3] (fun v=>∃ k:Nat,k<=s.size/\v=.int .i64 k/\((Lx.bs s).take k).all (fun c=>Lx.signI c.toNat)=true) (fun v=>s.size - (intOf v).toNat)
   case atStart=>exact⟨0,Nat.zero_le _,rfl,rfl⟩
   case round =>
    obtain ⟨k,hk,rfl,hall⟩:=hrel;have HA:=kp hall;clear hall
    by_cases hlt:k < s.size
    ·have hlt2:(k:Int) < (s.size:Int):=by omega
     have HC:=kp (Lx.rsign_any (s[k].toNat:Int) w (by omega) (by have:=s[k].toNat_lt;omega));have HT:=kp (Lx.bs_next hlt);have HMm:=kp (Lx.bs_mem hlt)
     cases hb:Lx.signI (s[k].toNat:Int) with
     | true =>
      have HB:=kp hb;rw [hb] at HC;clear hb;go_wp2_with fail
      refine HC.out.mono ?_;rintro e w' ⟨rfl,rfl⟩;go_wp2_with fail
      go_round
      case rel=>exact⟨k+1,by omega,by go_num,by rw [HT.out,List.all_append,HA.out];simp [HB.out]⟩
      case measure=>simp [intOf];omega
     | false =>
      have HB:=kp (show keyB (Lx.bs s)=false from by rw [HM.out,Bool.eq_false_iff];intro h;rw [List.all_eq_true] at h;have:=h _ HMm.out;rw [hb] at this;cases this);rw [hb] at HC;clear hb;go_wp2_with fail
      refine HC.out.mono ?_;rintro e w' ⟨rfl,rfl⟩;go_wp2_with fail
      go_ret;exact⟨ret_bool HB.out.symm,rfl⟩
    ·obtain rfl:k=s.size:=by omega
     have HB:=kp (show keyB (Lx.bs s)=true from by have h:=HA.out;rw [List.take_of_length_le (by rw [Lx.bs_length];omega)] at h;rw [HM.out,h]);go_wp2_with fail
     go_ret;exact⟨ret_bool HB.out.symm,rfl⟩
  ·have h:(100:Int) < (s.size:Int):=by omega
   replace HM:=kp (show keyB (Lx.bs s)=false by rw [HM.out,dfq h1];simp)
   go_enter Tryz.func188,Tryz.ntmps188
   go_wp2_with fail
   go_ret;exact⟨ret_bool HM.out.symm,rfl⟩
def RStandsAt (y:Sexp):Prop:=∀ (W:World) (A:Option Addr) (c:Nat),SexpR W [.int .i8 y.kind,.string y.text,.slice A y.l.length c] y->Calls Tryz.prog 168 #[.agg #[.int .i8 y.kind,.string y.text,.slice A y.l.length c]] W fun e w'=>e=.returned (.bool y.stands)/\Below W.heap.size W w'
theorem stands_full {x:Sexp} (h3:x.kind≠3) (hl:0 < x.l.length):x.stands=false:=by
 have he:x.l.isEmpty=false:=by rw [List.isEmpty_eq_false_iff,← List.length_pos_iff];exact hl
 rw [Sexp.stands_eq,he];simp [h3]
theorem stands_leaf {x:Sexp} (hl:x.l.length=0):x.stands=if x.kind=0 then Lx.mayB (Lx.bs x.text) else if x.kind=1 then numB (Lx.bs x.text) else if x.kind=2 then keyB (Lx.bs x.text) else if x.kind=3 then(Lx.bs x.text).isEmpty && Sexp.standsL x.l else false:=by
 have he:x.l.isEmpty=true:=by rw [List.isEmpty_iff,← List.length_eq_zero_iff];exact hl
 rw [Sexp.stands_eq,he];simp
theorem rnumB_iff (s:ByteArray):numB (Lx.bs s)=(decide (parseE s.data.toList≠20) && decide (s.size<=100)):=by
 rw [← Lx.bs_length];unfold numB parseE;show(isNum (Lx.bs s) && _)=_
 cases h:isNum (Lx.bs s)
 ·have h':isNum s.data.toList=false:=h;simp [h']
 ·have h':isNum s.data.toList=true:=h;simp [h']
  split <;> simp
theorem rstands_step (x:Sexp) (hs:∀ y ∈ x.l,RStandsAt y):RStandsAt x:=by
 intro w A c hr;obtain ⟨A0,c0,e0,hl,hc,hcm,htx,hlb,_⟩:=hr.open';simp only [List.cons.injEq,Value.slice.injEq,and_true,true_and] at e0;obtain ⟨rfl,rfl⟩:=e0;have HF:=kp (fun h3 hl=>stands_full (x:=x) h3 hl);have HE:=kp (fun hl=>stands_leaf (x:=x) hl);have HQ:=kp (Sexp.stands_eq x);obtain ⟨q0,q1,q2,z0⟩:=box_cells w (.int .i8 x.kind) (.string x.text) (.slice A x.l.length c) 40;have B0:=kp ((brq w).alloc nlq (.cells #[.int .i8 x.kind,.string x.text,.slice A x.l.length c] 40));have HM:=kp (fun W=>Lx.rmay_any x.text W (by omega));have HP:=kp (fun W=>rparse_any x.text (by omega) W);have HK:=kp (fun W=>rkey_any x.text W (by omega));have HN:=kp (rnumB_iff x.text)
 by_cases h3:x.kind=3
 ·have HX:=kp (show x.stands=((Lx.bs x.text).isEmpty && Sexp.standsL x.l) by rw [HQ.out,h3];rfl);have HS:=kp hs;have HL:=kp (hl.on SexpR.lasts B0.out);have HA:=kp (Sexp.standsL_all x.l);have HT:=kp (show(Lx.bs x.text).isEmpty=x.text.toList.isEmpty by rw [Lx.bs_toList]);rw [h3] at q0 q1 q2 z0 B0 HL ⊢;generalize x.stands=st at *;generalize x.text=t at *;generalize x.l=l at *;clear HF HE HQ hs hl hr h3 HM HP HK HN
  go_enter Tryz.func168,Tryz.ntmps168
  go_wp2_with fail
  generalize w.alloc (.cells #[.int .i8 3,.string t,.slice A l.length c] 40)=w0 at *
  go_loopw [5] (fun v wr=>∃ k:Nat,k<=l.length/\v=.int .i64 k/\(l.take k).all Sexp.stands=true/\Below w0.heap.size w0 wr) (fun v _=>l.length - (intOf v).toNat)
  case atStart=>exact⟨0,Nat.zero_le _,rfl,rfl,Below.refl _ _⟩
  case round =>
   obtain ⟨k,hk,rfl,hn,hb⟩:=hrel;have HNN:=kp hn;have HB:=kp hb;have p0:=((bcell hb).1 w.heap.size 0 (by omega)).trans q0;have p1:=((bcell hb).1 w.heap.size 1 (by omega)).trans q1;have p2:=((bcell hb).1 w.heap.size 2 (by omega)).trans q2;clear hn
   by_cases hlt:k < l.length
   ·have hlt2:(k:Int) < (l.length:Int):=by omega
    have hy:=gqe hlt;have hym:=List.getElem_mem hlt;generalize l[k]=y at hy hym;obtain ⟨b,o,A',c',rfl,hbl,e0,e1,e2,hr⟩:=sexp_cells (HL.out.on SexpR.lasts hb) hy;have HC:=kp (HS.out y hym wr A' c' hr);have HY:=kp hy;have HMm:=kp hym;clear hb hr hy hym q0 q1 q2
    cases hq:y.stands with
    | true =>
     have HQ:=kp (show(l.take (k+1)).all Sexp.stands=true by rw [List.take_add_one,HY.out,List.all_append,HNN.out];simpa using hq);rw [hq] at HC;clear hq;go_wp2_with fail
     refine HC.out.mono ?_;rintro e w2 ⟨rfl,hb2⟩;have HB2:=kp (HB.out.trans (hb2.mono HB.out.size));clear hb2;go_wp2_with fail
     go_roundw
     case rel=>exact⟨k+1,by omega,by go_num,HQ.out,HB2.out⟩
     case measure=>simp [intOf];omega
    | false =>
     have HQ:=kp (show Sexp.standsL l=false by rw [HA.out,List.all_eq_false];exact⟨y,HMm.out,by rw [hq];simp⟩);rw [hq] at HC;clear hq;go_wp2_with fail
     refine HC.out.mono ?_;rintro e w2 ⟨rfl,hb2⟩;have HB2:=kp (B0.out.trans ((HB.out.trans (hb2.mono HB.out.size)).mono (by omega)));clear hb2;go_wp2_with fail
     go_ret;exact⟨ret_bool (by rw [HX.out,HQ.out];simp),HB2.out⟩
   ·obtain rfl:k=l.length:=by omega
    have HQ:=kp (show Sexp.standsL l=true by have h:=HNN.out;rw [List.take_length] at h;rw [HA.out];exact h);have HB2:=kp (B0.out.trans (HB.out.mono (by omega)));clear hb q0 q1 q2;go_wp2_with fail
    go_ret;exact⟨ret_bool (by rw [HX.out,HQ.out,HT.out];simp),HB2.out⟩
 ·have n3:(x.kind == 3)=false:=beq_eq_false_iff_ne.2 h3;have n3b:(x.kind != 3)=true:=by rw [bne,n3];rfl
  by_cases hl0:0 < x.l.length
  ·have hl1:(0:Int) < (x.l.length:Int):=by omega
   have HX:=kp (HF.out h3 hl0);clear HF HE HQ hs hl hr h3 HM HP HK HN
   go_enter Tryz.func168,Tryz.ntmps168
   go_wp2_with fail
   go_ret;exact⟨ret_bool HX.out.symm,B0.out⟩
  ·have hl1:x.l.length=0:=by omega
   have HX:=kp (HE.out hl1);rw [hl1] at q0 q1 q2 z0 B0 ⊢;clear HF HE HQ hs hl hr hl0 hl1;generalize x.stands=st at *;generalize Lx.mayB (Lx.bs x.text)=b0 at *;generalize numB (Lx.bs x.text)=b1 at *;generalize keyB (Lx.bs x.text)=b2 at *;generalize parseE x.text.data.toList=pe at *;generalize parseV x.text.data.toList=pv at *
   by_cases h0:x.kind=0
   ·replace HX:=kp (HX.out.trans (if_pos h0));rw [h0] at q0 q1 q2 z0 B0 ⊢;clear h0 h3 n3 n3b
    go_enter Tryz.func168,Tryz.ntmps168
    go_wp2_with fail
    refine(HM.out _).mono ?_;rintro e w' ⟨rfl,rfl⟩;go_wp2_with fail
    go_ret;exact⟨ret_bool HX.out.symm,B0.out⟩
   ·have n0:(x.kind == 0)=false:=beq_eq_false_iff_ne.2 h0;replace HX:=kp (HX.out.trans (if_neg h0))
    by_cases h1:x.kind=1
    ·replace HX:=kp (HX.out.trans (if_pos h1));rw [h1] at q0 q1 q2 z0 B0 ⊢;clear h0 h1 h3 n3 n0 n3b
     by_cases hp:pe=20
     ·subst hp;replace HX:=kp (show st=false by rw [HX.out,HN.out];simp)
      go_enter Tryz.func168,Tryz.ntmps168
      go_wp2_with fail
      refine(HP.out _).mono ?_;rintro e w' ⟨rfl,rfl⟩;go_wp2_with fail
      go_ret;exact⟨ret_bool HX.out.symm,B0.out⟩
     ·have hp1:(pe == 20)=false:=beq_eq_false_iff_ne.2 hp;have hp2:(pe != 20)=true:=by rw [bne,hp1];rfl
      by_cases h2:x.text.size<=100
      ·have h2':(x.text.size:Int)<=100:=by omega
       replace HX:=kp (show st=true by rw [HX.out,HN.out];simp [hp,h2])
       go_enter Tryz.func168,Tryz.ntmps168
       go_wp2_with fail
       refine(HP.out _).mono ?_;rintro e w' ⟨rfl,rfl⟩;go_wp2_with fail
       go_ret;exact⟨ret_bool HX.out.symm,B0.out⟩
      ·have h2':decide ((x.text.size:Int)<=100)=false:=dfq (by omega);replace HX:=kp (show st=false by rw [HX.out,HN.out];simp [h2])
       go_enter Tryz.func168,Tryz.ntmps168
       go_wp2_with fail
       refine(HP.out _).mono ?_;rintro e w' ⟨rfl,rfl⟩;go_wp2_with fail
       go_ret;exact⟨ret_bool HX.out.symm,B0.out⟩
    ·have n1:(x.kind == 1)=false:=beq_eq_false_iff_ne.2 h1;replace HX:=kp (HX.out.trans (if_neg h1))
     by_cases h2:x.kind=2
     ·replace HX:=kp (HX.out.trans (if_pos h2));rw [h2] at q0 q1 q2 z0 B0 ⊢;clear h0 h1 h2 h3 n3 n0 n1 n3b
      go_enter Tryz.func168,Tryz.ntmps168
      go_wp2_with fail
      refine(HK.out _).mono ?_;rintro e w' ⟨rfl,rfl⟩;go_wp2_with fail
      go_ret;exact⟨ret_bool HX.out.symm,B0.out⟩
     ·have n2:(x.kind == 2)=false:=beq_eq_false_iff_ne.2 h2;replace HX:=kp ((HX.out.trans (if_neg h2)).trans (if_neg h3));clear h0 h1 h2 h3
      go_enter Tryz.func168,Tryz.ntmps168
      go_wp2_with fail
      go_ret;exact⟨ret_bool HX.out.symm,B0.out⟩
theorem rstands_all:∀ (n:Nat) (x:Sexp),SizeOf.sizeOf x < n->RStandsAt x:=by
 intro n
 induction n with
 | zero=>intro x hx;omega
 | succ n ih=>exact fun x hx=>rstands_step x fun y hy=>ih y (by have:=Sexp.mem_lt hy;omega)
theorem rsxmay_any {w:World} {A:Option Addr} {c:Nat} {x:Sexp} (h:SexpR w [.int .i8 x.kind,.string x.text,.slice A x.l.length c] x) :
  Calls Tryz.prog 128 #[.agg #[.int .i8 x.kind,.string x.text,.slice A x.l.length c]] w fun e w'=>e=.returned (.bool x.may)/\Below w.heap.size w w':=by
 obtain ⟨q0,q1,q2,z0⟩:=box_cells w (.int .i8 x.kind) (.string x.text) (.slice A x.l.length c) 40;have HB:=kp ((brq w).alloc nlq (.cells #[.int .i8 x.kind,.string x.text,.slice A x.l.length c] 40));have HR:=kp (SexpR.lasts _ _ _ _ HB.out h);have HD:=kp (rdepth_any _ x (Nat.lt_succ_self _) _ A c HR.out);have HS:=kp (rstands_all _ x (Nat.lt_succ_self _));have HM:=kp (show x.may=(decide (x.depth<=60) && x.stands) from rfl);clear h
 go_enter Tryz.func128,Tryz.ntmps128
 go_wp2_with fail
 generalize w.alloc (.cells #[.int .i8 x.kind,.string x.text,.slice A x.l.length c] 40)=w0 at *;refine HD.out.mono ?_;rintro e w1 ⟨rfl,hb⟩;have hs:=HS.out w1 A c (SexpR.lasts _ _ _ _ hb HR.out);have p0:=((bcell hb).1 w.heap.size 0 (by omega)).trans q0;have p1:=((bcell hb).1 w.heap.size 1 (by omega)).trans q1;have p2:=((bcell hb).1 w.heap.size 2 (by omega)).trans q2;have HB1:=kp (HB.out.trans (hb.mono HB.out.size));clear hb q0 q1 q2
 by_cases hd:x.depth<=60
 ·go_wp2_with fail
  refine hs.mono ?_;rintro e w2 ⟨rfl,hb⟩;have HB2:=kp (HB1.out.trans (hb.mono HB1.out.size));clear hb;go_wp2_with fail
  go_ret;exact⟨ret_bool (by rw [HM.out,decide_eq_true hd];rfl),HB2.out⟩
 ·have hd2:=dfq hd;clear hs;go_wp2_with fail
  go_ret;exact⟨ret_bool (by rw [HM.out,hd2];rfl),HB1.out⟩
end Dt
end Go.Proofs.YtpmdcckapddchaaGreatDoor
