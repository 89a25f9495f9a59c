import Derived.Test.YtmcbolkpbklfeaaGreatDoorShort
import Derived.Test.YtmcbolkpbklfeaaGreatDoorMf
/- merged by wip/merge.py from: SexpStand2 SexpMay -/
set_option maxRecDepth 100000
set_option maxHeartbeats 51200000
namespace Go.Proofs.YtmcbolkpbklfeaaGreatDoor
namespace Dt
open Go.RowKit
theorem bytes_conv (W:World) (s:ByteArray):∃ cap W1,(convert 9 50 (.string s)).run Tryz.prog W=.ok (.slice (some ⟨W.heap.size,0,none⟩) s.size cap) W1/\Below W.heap.size W W1/\Cells W1 (some ⟨W.heap.size,0,none⟩) ((Lx.bs s).map byteV):=by
 refine⟨_,_,run_bytes_of_string (P:=Tryz.prog) W 9 50 5 s Tryz.underlying9 Tryz.underlying50 Tryz.underlying5,((Below.refl _ _).drew).alloc nlq _,.inr ⟨W.heap.size,0,rfl,by simp,fun j u hu=>?_⟩⟩;have hj:j < s.data.size:=by have:=(gqs hu).1;rw [List.length_map,Lx.bs_length] at this;exact this
 have h1:=World.cell?_alloc_mark W.drew (bytesRow s (grownCap W s.size 0 5)) 5 ((bytesRow s (grownCap W s.size 0 5)).size,(bytesRow s (grownCap W s.size 0 5)).size+1) j;rw [bytesRow_at _ _ _ hj] at h1;rw [Nat.zero_add];refine h1.trans ?_;rw [← hu,List.getElem?_map,Lx.bs_at (by exact hj)]
 rfl
theorem keyB_iff (s:ByteArray):keyB (Lx.bs s)=(!(Lx.bs s).any noSign && !(Lx.bs s).isEmpty && decide (s.size<=100)):=by
 unfold keyB;rw [Lx.bs_length]
 congr 2
 rw [Bool.eq_iff_iff];simp [noSign]
theorem keyword_any {w:World} {b:Nat} {A:Option Addr} {c:Nat} {x:Sexp} (h:PtrAt w b A c x) :
  Calls Tryz.prog 167 #[.pointer (some ⟨b,0,none⟩)] w fun e w'=>e=.returned (.bool (x.l.isEmpty && keyB (Lx.bs x.text)))/\Below w.heap.size w w':=by
 obtain ⟨cap,w1,hconv,hb1,hcs⟩:=bytes_conv w x.text;have HC:=kp (contains_bytes (Lx.bs x.text) w1 _ cap hcs (by rw [Lx.bs_length];have:=h.text;omega));have HB1:=kp hb1;have HN:=kp (keyB_iff x.text);have d1:=(h.on hb1).c1;have d2:=(h.on hb1).c2;have HE:=kp (show(Lx.bs x.text).isEmpty=x.text.toList.isEmpty by rw [Lx.bs_toList]);have HL:=kp (Lx.bs_length x.text);have c1:=h.c1;have hl:=h.len;have ht:=h.text;rw [Lx.bs_length] at HC;generalize keyB (Lx.bs x.text)=kb at *;generalize (Lx.bs x.text).any noSign=nb at *;generalize x.text=t at *;generalize x.l=l at *;clear h hb1 hcs
 cases l with
 | nil =>
  simp only [List.length_nil] at d2
  cases nb with
  | true =>
   go_enter Tryz.func167,Tryz.ntmps167
   go_wp2_with fail
   refine(HC.out).mono ?_;rintro e w' ⟨rfl,rfl⟩;go_wp2_with fail
   go_ret;exact⟨ret_bool (by rw [HN.out];simp),HB1.out⟩
  | false =>
   cases he:t.toList.isEmpty with
   | true =>
    have he2:t.toList=[]:=List.isEmpty_iff.1 he;have HE2:=kp (show(Lx.bs t).isEmpty=true by rw [HE.out,he])
    go_enter Tryz.func167,Tryz.ntmps167
    go_wp2_with fail
    refine(HC.out).mono ?_;rintro e w' ⟨rfl,rfl⟩;go_wp2_with fail
    go_ret;exact⟨ret_bool (by rw [HN.out,HE2.out];simp),HB1.out⟩
   | false =>
    have HE2:=kp (show(Lx.bs t).isEmpty=false by rw [HE.out,he]);have he3:(!t.toList.isEmpty)=true:=by rw [he];rfl
    by_cases h2:t.size<=100
    ·have h2':(t.size:Int)<=100:=by omega
     go_enter Tryz.func167,Tryz.ntmps167
     go_wp2_with fail
     refine(HC.out).mono ?_;rintro e w' ⟨rfl,rfl⟩;go_wp2_with fail
     go_ret;exact⟨ret_bool (by rw [HN.out,HE2.out];simp [h2]),HB1.out⟩
    ·have h2':decide ((t.size:Int)<=100)=false:=dfq (by omega)
     go_enter Tryz.func167,Tryz.ntmps167
     go_wp2_with fail
     refine(HC.out).mono ?_;rintro e w' ⟨rfl,rfl⟩;go_wp2_with fail
     go_ret;exact⟨ret_bool (by rw [HN.out,HE2.out];simp [h2]),HB1.out⟩
 | cons y r =>
  have hn:(((y :: r).length:Int) == 0)=false:=by rw [beq_eq_false_iff_ne,List.length_cons];omega
  have HI:=kp (show(y :: r).isEmpty=false from rfl);generalize (y :: r).length=n at *
  go_enter Tryz.func167,Tryz.ntmps167
  go_wp2_with fail
  refine(HC.out).mono ?_;rintro e w' ⟨rfl,rfl⟩;go_wp2_with fail
  go_ret;exact⟨ret_bool (by rw [HI.out];rfl),HB1.out⟩
def StandsAt (y:Sexp):Prop:=∀ (W:World) (b:Nat) (A:Option Addr) (c:Nat),PtrAt W b A c y->Calls Tryz.prog 119 #[.pointer (some ⟨b,0,none⟩)] W fun e w'=>e=.returned (.bool y.stands)/\Below W.heap.size W w'
theorem ptr_box {w:World} {A:Option Addr} {c:Nat} {x:Sexp} (h:SexpR w [.int .i8 x.kind,.string x.text,.slice A x.l.length c] x) :
  PtrAt (w.alloc (.cells #[.int .i8 x.kind,.string x.text,.slice A x.l.length c] 81)) w.heap.size A c x:=by
 obtain ⟨q0,q1,q2,z⟩:=box_cells w (.int .i8 x.kind) (.string x.text) (.slice A x.l.length c) 81;exact⟨q0,q1,q2,by omega,SexpR.lasts _ _ _ _ ((Below.refl _ _).alloc nlq _) h⟩
theorem list1_any {y:Sexp} (hs:StandsAt y) {w:World} {A:Option Addr} {c:Nat} (h:SexpR w [.int .i8 y.kind,.string y.text,.slice A y.l.length c] y) :
  Calls Tryz.prog 229 #[.agg #[.int .i8 y.kind,.string y.text,.slice A y.l.length c]] w fun e w'=>e=.returned (.bool (!y.stands))/\Below w.heap.size w w':=by
 have HP:=kp (hs _ _ A c (ptr_box h));have HB:=kp ((brq w).alloc nlq (.cells #[.int .i8 y.kind,.string y.text,.slice A y.l.length c] 81));generalize y.stands=b at *;clear hs h
 go_enter Tryz.func229,Tryz.ntmps229
 go_wp2_with fail
 refine HP.out.mono ?_;rintro e w1 ⟨rfl,hb⟩;have HB1:=kp (HB.out.trans (hb.mono HB.out.size));clear hb;go_wp2_with fail
 go_ret;exact⟨rfl,HB1.out⟩
theorem idx_sexp (l:List Sexp) (hs:∀ y ∈ l,StandsAt y) (w:World) (A:Option Addr) (c:Nat) (hl:Lies 3 SexpR w A l) (hlen:(l.length:Int)<=140737488351232) :
  Calls Tryz.prog 306 #[.slice A l.length c,.func (Fn.func 229) #[] #[]] w fun e w'=>IdxPost (!Sexp.standsL l) e/\Below w.heap.size w w':=by
 have HS:=kp hs;have HL:=kp hl;have HA:=kp (Sexp.standsL_all l);clear hs hl
 go_enter Tryz.func306,Tryz.ntmps306
 go_wp2_with fail
 go_loopw [8] (fun v wr=>∃ k:Nat,k<=l.length/\v=.int .i64 k/\(l.take k).all Sexp.stands=true/\Below w.heap.size w wr) (fun v _=>l.length - (intOf v).toNat)
 case atStart=>exact⟨0,Nat.zero_le _,rfl,rfl,Below.refl _ _⟩
 case round =>
  obtain ⟨k,hk,rfl,hn,hb⟩:=hrel;have HN:=kp hn;have HB:=kp hb;clear hn
  by_cases hlt:k < l.length
  ·have hlt2:(k:Int) < (l.length:Int):=by omega
   have hy:=gqe hlt;have hym:=List.getElem_mem hlt;generalize l[k]=y at hy hym;obtain ⟨b,o,A',c',rfl,hbl,e0,e1,e2,hr⟩:=sexp_cells (HL.out.on SexpR.lasts hb) hy;have HC:=kp (list1_any (HS.out y hym) hr);have HY:=kp hy;have HM:=kp hym;clear hb hr hy hym
   cases hq:y.stands with
   | true =>
    have HQ:=kp (show(l.take (k+1)).all Sexp.stands=true by rw [List.take_add_one,HY.out,List.all_append,HN.out];simpa using hq);rw [hq] at HC;clear hq;go_wp2_with fail
    refine HC.out.mono ?_;rintro e w2 ⟨rfl,hb2⟩;have HB2:=kp (HB.out.trans (hb2.mono HB.out.size));clear hb2;go_wp2_with fail
    go_roundw
    case rel=>exact⟨k+1,by omega,by go_num,HQ.out,HB2.out⟩
    case measure=>simp [intOf];omega
   | false =>
    have HQ:=kp (show Sexp.standsL l=false by rw [HA.out,List.all_eq_false];exact⟨y,HM.out,by rw [hq];simp⟩);rw [hq] at HC;clear hq;go_wp2_with fail
    refine HC.out.mono ?_;rintro e w2 ⟨rfl,hb2⟩;have HB2:=kp (HB.out.trans (hb2.mono HB.out.size));clear hb2;go_wp2_with fail
    go_ret;exact⟨⟨k,rfl,by rw [HQ.out];exact decide_eq_true (by omega)⟩,HB2.out⟩
  ·obtain rfl:k=l.length:=by omega
   have HQ:=kp (show Sexp.standsL l=true by have h:=HN.out;rw [List.take_length] at h;rw [HA.out];exact h);clear hb;go_wp2_with fail
   go_ret;exact⟨⟨-1,rfl,by rw [HQ.out];exact dfq (by omega)⟩,HB.out⟩
theorem contains_sexp_of {w:World} {A:Option Addr} {n c:Nat} {q:Bool} {fv:Value} (h:Calls Tryz.prog 306 #[.slice A n c,fv] w fun e w'=>IdxPost q e/\Below w.heap.size w w') :
  Calls Tryz.prog 228 #[.slice A n c,fv] w fun e w'=>e=.returned (.bool q)/\Below w.heap.size w w':=by
 have HI:=kp h;clear h
 go_enter Tryz.func228,Tryz.ntmps228
 go_wp2_with fail
 refine HI.out.mono ?_;rintro e w1 ⟨⟨r,rfl,hr⟩,hb⟩;have HR:=kp hr;have HB:=kp hb;clear hr hb;go_wp2_with fail
 go_ret;exact⟨ret_bool HR.out,HB.out⟩
theorem list_any {w:World} {b:Nat} {A:Option Addr} {c:Nat} {x:Sexp} (h:PtrAt w b A c x) (hs:∀ y ∈ x.l,StandsAt y) :
  Calls Tryz.prog 168 #[.pointer (some ⟨b,0,none⟩)] w fun e w'=>e=.returned (.bool ((Lx.bs x.text).isEmpty && Sexp.standsL x.l))/\Below w.heap.size w w':=by
 obtain ⟨A0,c0,e0,hl,hc,hcm,htx,hlb,_⟩:=h.rep.open';simp only [List.cons.injEq,Value.slice.injEq,and_true,true_and] at e0;obtain ⟨rfl,rfl⟩:=e0;have HI:=kp (idx_sexp x.l hs w A c hl (by omega));have c1:=h.c1;have c2:=h.c2;have HE:=kp (show(Lx.bs x.text).isEmpty=x.text.toList.isEmpty by rw [Lx.bs_toList]);generalize Sexp.standsL x.l=sl at *;generalize x.text=t at *;generalize x.l=l at *;clear h hs hl
 cases he:t.toList.isEmpty with
 | true =>
  have he2:t.toList=[]:=List.isEmpty_iff.1 he;replace HE:=kp (show(Lx.bs t).isEmpty=true by rw [HE.out,he])
  go_enter Tryz.func168,Tryz.ntmps168
  go_wp2_with fail
  refine(Calls.mono (contains_sexp_of HI.out) ?_);rintro e w1 ⟨rfl,hb⟩;have HB:=kp hb;clear hb;go_wp2_with fail
  go_ret;exact⟨ret_bool (by rw [HE.out];cases sl <;> rfl),HB.out⟩
 | false =>
  replace HE:=kp (show(Lx.bs t).isEmpty=false by rw [HE.out,he])
  go_enter Tryz.func168,Tryz.ntmps168
  go_wp2_with fail
  go_ret;exact⟨ret_bool (by rw [HE.out];rfl),Below.refl _ _⟩
theorem stands_step (x:Sexp) (hs:∀ y ∈ x.l,StandsAt y):StandsAt x:=by
 intro w b A c h;have c0:=h.c0;have H0:=kp (symbol_any h);have H1:=kp (numeral_any h);have H2:=kp (keyword_any h);have H3:=kp (list_any h hs);have HE:=kp (Sexp.stands_eq x);generalize (x.l.isEmpty && Lx.mayB (Lx.bs x.text))=b0 at *;generalize (x.l.isEmpty && numB (Lx.bs x.text))=b1 at *;generalize (x.l.isEmpty && keyB (Lx.bs x.text))=b2 at *;generalize ((Lx.bs x.text).isEmpty && Sexp.standsL x.l)=b3 at *;generalize x.stands=st at *;generalize x.kind=k at *;clear h hs
 by_cases h0:k=0
 ·subst h0;replace HE:=kp (HE.out.trans (if_pos rfl))
  go_enter Tryz.func119,Tryz.ntmps119
  go_wp2_with fail
  refine(H0.out).mono ?_;rintro e w' ⟨rfl,rfl⟩;go_wp2_with fail
  go_ret;exact⟨ret_bool HE.out.symm,Below.refl _ _⟩
 ·have n0:(k == 0)=false:=beq_eq_false_iff_ne.2 h0;replace HE:=kp (HE.out.trans (if_neg h0))
  by_cases h1:k=1
  ·subst h1;replace HE:=kp (HE.out.trans (if_pos rfl))
   go_enter Tryz.func119,Tryz.ntmps119
   go_wp2_with fail
   refine H1.out.mono ?_;rintro e w1 ⟨rfl,hb⟩;have HB:=kp hb;clear hb;go_wp2_with fail
   go_ret;exact⟨ret_bool HE.out.symm,HB.out⟩
  ·have n1:(k == 1)=false:=beq_eq_false_iff_ne.2 h1;replace HE:=kp (HE.out.trans (if_neg h1))
   by_cases h2:k=2
   ·subst h2;replace HE:=kp (HE.out.trans (if_pos rfl))
    go_enter Tryz.func119,Tryz.ntmps119
    go_wp2_with fail
    refine H2.out.mono ?_;rintro e w1 ⟨rfl,hb⟩;have HB:=kp hb;clear hb;go_wp2_with fail
    go_ret;exact⟨ret_bool HE.out.symm,HB.out⟩
   ·have n2:(k == 2)=false:=beq_eq_false_iff_ne.2 h2;replace HE:=kp (HE.out.trans (if_neg h2))
    by_cases h3:k=3
    ·subst h3;replace HE:=kp (HE.out.trans (if_pos rfl))
     go_enter Tryz.func119,Tryz.ntmps119
     go_wp2_with fail
     refine H3.out.mono ?_;rintro e w1 ⟨rfl,hb⟩;have HB:=kp hb;clear hb;go_wp2_with fail
     go_ret;exact⟨ret_bool HE.out.symm,HB.out⟩
    ·have n3:(k == 3)=false:=beq_eq_false_iff_ne.2 h3;replace HE:=kp (HE.out.trans (if_neg h3))
     go_enter Tryz.func119,Tryz.ntmps119
     go_wp2_with fail
     go_ret;exact⟨ret_bool HE.out.symm,Below.refl _ _⟩
theorem stands_all:∀ (n:Nat) (x:Sexp),SizeOf.sizeOf x < n->StandsAt x:=by
 intro n
 induction n with
 | zero=>intro x hx;omega
 | succ n ih=>exact fun x hx=>stands_step x fun y hy=>ih y (by have:=Sexp.mem_lt hy;omega)
theorem sxmay_any {w:World} {A:Option Addr} {c:Nat} {x:Sexp} (h:SexpR w [.int .i8 x.kind,.string x.text,.slice A x.l.length c] x) :
  Calls Tryz.prog 81 #[.agg #[.int .i8 x.kind,.string x.text,.slice A x.l.length c]] w fun e w'=>e=.returned (.bool x.may)/\Below w.heap.size w w':=by
 have HP:=kp (ptr_box h);have HB:=kp ((brq w).alloc nlq (.cells #[.int .i8 x.kind,.string x.text,.slice A x.l.length c] 81));have HD:=kp (depth_any _ x (Nat.lt_succ_self _) _ A c (SexpR.lasts _ _ _ _ HB.out h));have HS:=kp (stands_all _ x (Nat.lt_succ_self _));have HM:=kp (show x.may=(decide (x.depth<=60) && x.stands) from rfl);clear h
 go_enter Tryz.func81,Tryz.ntmps81
 go_wp2_with fail
 refine HD.out.mono ?_;rintro e w1 ⟨rfl,hb⟩;have HP1:=kp (HP.out.on hb);have HB1:=kp (HB.out.trans (hb.mono HB.out.size));clear hb;have hs:=HS.out w1 _ A c HP1.out
 by_cases hd:x.depth<=60
 ·go_wp2_with fail
  refine hs.mono ?_;rintro e w2 ⟨rfl,hb⟩;have HB2:=kp (HB1.out.trans (hb.mono HB1.out.size));clear hb;go_wp2_with fail
  go_ret;exact⟨ret_bool (by rw [HM.out,decide_eq_true hd];rfl),HB2.out⟩
 ·have hd2:=dfq hd;clear hs;go_wp2_with fail
  go_ret;exact⟨ret_bool (by rw [HM.out,hd2];rfl),HB1.out⟩
end Dt
end Go.Proofs.YtmcbolkpbklfeaaGreatDoor
