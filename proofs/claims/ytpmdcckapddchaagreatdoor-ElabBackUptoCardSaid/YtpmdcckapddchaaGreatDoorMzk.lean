import Derived.Test.YtpmdcckapddchaaGreatDoorShort
import Derived.Test.YtpmdcckapddchaaGreatDoorMzd
import Derived.Test.YtpmdcckapddchaaGreatDoorMzh
import Derived.Test.YtpmdcckapddchaaGreatDoorMzi
/- merged by wip/merge.py from: ElList ElTerm -/
set_option maxRecDepth 100000
set_option maxHeartbeats 51200000
namespace Go.Proofs.YtpmdcckapddchaaGreatDoor
namespace El
open Go.RowKit Go.Maps Dt Sg
theorem way_call {name:ByteArray} {k lo hi:Nat} (hw:wayN name=some (k,lo,hi)) (args:Array Value) (W:World):(callFunc (fnW k) args).run Tryz.prog W=.ok (Next.enter (fnW k) args) W:=by
 rcases way_cases hw with⟨rfl,rfl,rfl⟩ | ⟨hk,rfl,rfl⟩ | ⟨rfl,rfl,rfl⟩ | ⟨hk,rfl,rfl⟩
 ·exact Tryz.call141 args W
 ·rcases hk with rfl | rfl | rfl | rfl | rfl | rfl
  ·exact Tryz.call142 args W
  ·exact Tryz.call143 args W
  ·exact Tryz.call144 args W
  ·exact Tryz.call145 args W
  ·exact Tryz.call146 args W
  ·exact Tryz.call147 args W
 ·exact Tryz.call148 args W
 ·rcases hk with rfl | rfl | rfl | rfl
  ·exact Tryz.call149 args W
  ·exact Tryz.call150 args W
  ·exact Tryz.call151 args W
  ·exact Tryz.call152 args W
theorem diffO_cases (c:Cx) (r:Sexp->St->V × St) (name:ByteArray) (x:Sexp) (st:St) :
  ((diffO c r name x st).1.2=true/\(if differsN name x=1 then diffLM c r name x st else diffRM c r name x st)=((diffO c r name x st).1.1,(diffO c r name x st).2)/\(differsN name x=1\/differsN name x=2)) \/
  (diffO c r name x st=((v0,false),st)/\¬ differsN name x=1/\¬ differsN name x=2):=by
 unfold diffO
 by_cases h1:differsN name x=1
 ·left;simp [h1]
 ·by_cases h2:differsN name x=2
  ·left;simp [h2]
  ·right;simp [h1,h2]
theorem head_nth {x:Sexp} (h:isListB x=true):headS x=(nthX x 0).text/\x.kind=3/\0 < x.l.length:=by
 unfold isListB at h;simp only [Bool.and_eq_true,decide_eq_true_eq] at h;obtain ⟨h3,h⟩:=h;unfold headS nthX
 cases hl:x.l with
 | nil=>rw [hl] at h;cases h
 | cons y r =>
  rw [hl] at h;simp only [decide_eq_true_eq] at h;exact⟨by simp [h3,h],h3,by simp⟩
theorem elist_any {F:Fix} (hF:FixOk F) {known:Nat} {x:Sexp} (hT:∀ y:Sexp,y.full < x.full->TermC F known y) (hB:∀ (k:Nat) (m:Macro),F.c.g.macros[k]?=some m->k < known->TermC F k m.body) (hfx:x.full<=3000000) (hli:isListB x=true) {w:World} {st:St} {At:Option Addr} {ct:Nat} (hm:Mk F w known st At ct) {A:Option Addr} {c:Nat} (hx:XAt F.W0 A c x) {p:Option Addr} {env:Env} (he:EnvS F w p env) :
  Calls Tryz.prog 57 #[.pointer (some ⟨F.mb,0,none⟩),.agg #[.int .i8 x.kind,.string x.text,.slice A x.l.length c],.pointer p] w (MkPost F known w st.t At (listM F.c (termP F.c) known x env st).1 (listM F.c (termP F.c) known x env st).2):=by
 have hhd:=(head_nth hli).1;have hpos:=(head_nth hli).2.2;have hln:=len_full x;have hx10:(x.l.length:Int)<=3000000:=by omega
 clear hln;have hlt:=hm.lt;have HTm:=kp (fun y (hy:y ∈ x.l)=>full_mem hy);have HT:=kp hT;have HX:=kp hx;have HE:=kp he;have B1:=kp ((brq w).alloc nlq (.cells #[.int .i8 x.kind,.string x.text,.slice A x.l.length c] 40));have Z1:=kp (show(w.alloc (.cells #[.int .i8 x.kind,.string x.text,.slice A x.l.length c] 40)).heap.size=w.heap.size+1 by simp);have D1:=kp (Mid.newOn hm B1.out);have X1:=kp (Bk.keep (Bk.new w (.cells #[.int .i8 x.kind,.string x.text,.slice A x.l.length c] 40)) (.cells #[.int .i64 0,.int .i64 0] 82));rw [Z1.out] at D1;obtain ⟨b,o,A0,c0,hA,hx0,hc0⟩:=nth_xs hx (i:=0) hpos;subst hA;have hns:=hx0.opens.2.2.2.1;rw [← hhd] at hns;obtain ⟨hll,hlc,hcm,_,hlb,_⟩:=hx.opens;have HC0:=kp hc0
 -- the parts
 have HLet:=kp (fun(W:World) (A':Option Addr) (c':Nat) (h:Mid F known w st.t At (w.heap.size+1) W st A' c')=>let_any hF hT h.maker hx (he.on h.keeps));have HSum:=kp (fun(W:World) (A':Option Addr) (c':Nat) (h:Mid F known w st.t At (w.heap.size+1) W st A' c')=>sum_any hF (fun y hy=>hT y (full_mem hy)) h.maker (headS x) hx (he.on h.keeps));have HDif:=kp (fun(W:World) (A':Option Addr) (c':Nat) (h:Mid F known w st.t At (w.heap.size+1) W st A' c')=>differ_any hF (fun y hy z hz=>hT z (Nat.lt_trans (full_mem hz) (full_mem hy))) h.maker (headS x) hns hx (he.on h.keeps));have HCal:=kp (fun(W:World) (A':Option Addr) (c':Nat) (L':Option Addr) (cl:Nat) (hL:Lies 3 SexpR F.W0 L' x.l.tail) (h:Mid F known w st.t At (w.heap.size+1) W st A' c')=>call_any hF (fun y hy=>hT y (full_mem (List.mem_of_mem_tail hy))) hB h.maker (headS x) cl hL (by simp;omega) (he.on h.keeps));have HAll:=kp (fun(W:World) (A':Option Addr) (c':Nat) (L':Option Addr) (cl:Nat) (hL:Lies 3 SexpR F.W0 L' x.l.tail) (h:Mid F known w st.t At (w.heap.size+1) W st A' c')=>all_any hF (fun y hy=>hT y (full_mem (List.mem_of_mem_tail hy))) h.maker cl hL (by simp;omega) (he.on h.keeps));have HWa:=kp (fun W=>ways_any (w:=W) (headS x) hns);unfold WaysPost at HWa;have HRs:=kp (Lx.reserved_any (headS x))
 have HTl:=kp (show Lies 3 SexpR F.W0 (some ⟨b,o+3,none⟩) x.l.tail by
  have h:=lies_drop hll 1
  rwa [List.drop_one,Nat.one_mul] at h)
 have HHd:=kp hhd;have HTn:=kp (show x.l.tail.length=x.l.length - 1 by simp);generalize hr:(fun y=>termP F.c known y env)=r at *
 have HS:=kp (show listM F.c (termP F.c) known x env st=if headS x=sLet then letM (termP F.c) known x env st
  else if Lx.resB (Lx.bs (headS x))=true\/headS x=sTrue\/headS x=sFalse then(v0,failS 30 st)
  else if headS x=sPlus\/headS x=sMinus then sumM F.c r (headS x) x st
  else match wayN (headS x) with
   | none=>if x.l.tail.length=0 then(v0,failS 30 st) else callM F.c (termP F.c) known (headS x) x.l.tail env st
   | some (way,least,most) =>
    if x.l.tail.length < least\/most < x.l.tail.length then(v0,failS 30 st)
    else if differsN (headS x) x=1 then diffLM F.c r (headS x) x st
    else if differsN (headS x) x=2 then diffRM F.c r (headS x) x st
    else if(allM r x.l.tail st).2.e≠0 then(v0,(allM r x.l.tail st).2) else makeM F.c way (allM r x.l.tail st).1 (allM r x.l.tail st).2 by rw [← hr];rfl)
 have HDo:=kp (diffO_cases F.c r (headS x) x st);have HVl:=kp (allM_len r x.l.tail st);clear hm hT hB hx he hr hll hx0 hc0 hfx hli hhd;generalize listM F.c (termP F.c) known x env st=res at *;generalize letM (termP F.c) known x env st=resL at *;generalize sumM F.c r (headS x) x st=resS at *;generalize callM F.c (termP F.c) known (headS x) x.l.tail env st=resC at *;generalize diffO F.c r (headS x) x st=dfo at *;generalize allM r x.l.tail st=al at *;have g0:(0:Int) < (x.l.length:Int):=by omega
 have g1:(1:Int)<=(x.l.length:Int):=by omega
 have g2:(1:Int)<=(c:Int):=by omega
 go_enter Tryz.func57,Tryz.ntmps57
 go_upto_region 1 with fail
 generalize (w.alloc (.cells #[.int .i8 x.kind,.string x.text,.slice (some ⟨b,o,none⟩) x.l.length c] 40)).alloc (.cells #[.int .i64 0,.int .i64 0] 82)=w1 at *
 go_cut [7,8] from 14 to 21 (fun v7 v8 W=>v7=.string (headS x)/\(∃ L' cl',v8=.slice L' x.l.tail.length cl'/\Lies 3 SexpR F.W0 L' x.l.tail)/\w1.drew=W)
 case first =>
  have B0:=kp (brq w1).drew;have HX0:=kp (fun(W:World) (hW:Below w1.heap.size w1 W)=>Bk.on X1.out hW)
  have HY0:=kp (fun(W:World) (hW:Below w1.heap.size w1 W)=>show W.cell? ⟨b,o+1,none⟩=some (.string (headS x)) by
   have h:=(HC0.out W (D1.out.below hW).maker.below).2.1;rw [Nat.zero_mul,Nat.add_zero,← HHd.out] at h;exact h)
  by_cases hc1:c=1
  ·subst hc1;have hz:x.l.length - 1=0:=by omega
   have HZ:=kp (show x.l.tail=[] from List.length_eq_zero_iff.1 (by simp;omega));have HZl:=kp (show x.l.length=1 by omega);refine wp_region_held_drew (S:=fun W=>Below w1.heap.size w1 W) (by kernel_rfl) (B0.out) (fun hHeld=>?_);refine plz [0,1,2,3,4,5,6,7,8,9] ?_;iterate 10 (refine tnz (v:=?_) ?_ ?_;rotate_left;(focus first | ((intro w hSw;go_simp;try with_reducible rfl);done) | ((intro w hSw;(obtain ⟨q0,q1,q2,qf⟩:=Bk.c3 (HX0.out _ hSw);go_simp;try with_reducible rfl));done) | ((intro w hSw;(have p0:=HY0.out _ hSw;go_simp;try with_reducible rfl));done));try simp only [pt])
   refine pzz ?_;refine dnz ?_;go_wp2_with fail
   go_meet;exact⟨rfl,⟨_,_,by rw [HTn.out,hz],.inl HZ.out⟩,rfl⟩
  ·have hc2:1 < c:=by omega
   refine wp_region_held_drew (S:=fun W=>Below w1.heap.size w1 W) (by kernel_rfl) (B0.out) (fun hHeld=>?_);refine plz [0,1,2,3,4,5,6,7,8,9] ?_;iterate 10 (refine tnz (v:=?_) ?_ ?_;rotate_left;(focus first | ((intro w hSw;go_simp;try with_reducible rfl);done) | ((intro w hSw;(obtain ⟨q0,q1,q2,qf⟩:=Bk.c3 (HX0.out _ hSw);go_simp;try with_reducible rfl));done) | ((intro w hSw;(have p0:=HY0.out _ hSw;go_simp;try with_reducible rfl));done));try simp only [pt])
   refine pzz ?_;refine dnz ?_;go_wp2_with fail
   go_meet;exact⟨rfl,⟨_,_,by rw [HTn.out],HTl.out⟩,rfl⟩
 case rest =>
  obtain ⟨rfl,⟨L',cl',rfl,hL⟩,rfl⟩:=hcut;have HL:=kp hL;have D2:=kp D1.out.drew;have X2:=kp (Bk.on X1.out (brq w1).drew);clear hL D1 X1 HTl HC0 g0 g1 g2;generalize w1.drew=w2 at *;generalize x.l.tail=tl at *;generalize headS x=nm at *;have HTl2:=kp (show tl.length<=3000000 by have:=HTn.out;omega);obtain ⟨q0,q1,q2,qf⟩:=Bk.c3 X2.out
  by_cases h1:nm=sLet
  ·replace HS:=kp (HS.out.trans (if_pos h1));have e1:(nm.toList == [108,101,116])=true:=tl_true h1;have HC:=kp (HLet.out _ _ _ D2.out);clear h1;rw [← HS.out] at HC;go_wp2_with fail
   refine HC.out.mono ?_;rintro e w7 ⟨rfl,hv,hk7,A7,c7,hm7,ht7⟩;have D7:=kp (D2.out.call hk7 hm7 ht7);unfold valV;clear hk7 hm7 ht7 q0 q1 q2 qf;obtain ⟨r0,r1,rf⟩:=Bk.c2 D7.out.cell;go_wp2_with fail
   refine D7.out.ret (v:=res.1) hF Tryz.results57 ?_ ?_ hv <;> rfl
  replace HS:=kp (HS.out.trans (if_neg h1));have e1:(nm.toList == [108,101,116])=false:=tl_false h1;clear h1 HLet
  by_cases h2:Lx.resB (Lx.bs nm)=true
  ·replace HS:=kp (HS.out.trans (if_pos (.inl h2)));rw [h2] at HRs;clear h2;go_wp2_with fail
   refine(HRs.out _).mono ?_;rintro e w' ⟨rfl,rfl⟩;have HFl:=kp (fail_any hF D2.out.maker 30 (by decide));go_wp2_with fail
   refine HFl.out.mono ?_;rintro e w7 ⟨rfl,hv,hk7,A7,c7,hm7,ht7⟩;have D7:=kp (D2.out.call hk7 hm7 ht7);unfold valV v0;clear hk7 hm7 ht7;obtain ⟨r0,r1,rf⟩:=Bk.c2 D7.out.cell;go_wp2_with fail
   rw [HS.out];refine D7.out.ret (v:=v0) hF Tryz.results57 ?_ ?_ v0_VI <;> rfl
  rw [eq_false_of_ne_true h2] at HRs
  by_cases h3:nm=sTrue
  ·replace HS:=kp (HS.out.trans (if_pos (.inr (.inl h3))));have e3:(nm.toList == [116,114,117,101])=true:=tl_true h3;clear h2 h3;go_wp2_with fail
   refine(HRs.out _).mono ?_;rintro e w' ⟨rfl,rfl⟩;have HFl:=kp (fail_any hF D2.out.maker 30 (by decide));go_wp2_with fail
   refine HFl.out.mono ?_;rintro e w7 ⟨rfl,hv,hk7,A7,c7,hm7,ht7⟩;have D7:=kp (D2.out.call hk7 hm7 ht7);unfold valV v0;clear hk7 hm7 ht7;obtain ⟨r0,r1,rf⟩:=Bk.c2 D7.out.cell;go_wp2_with fail
   rw [HS.out];refine D7.out.ret (v:=v0) hF Tryz.results57 ?_ ?_ v0_VI <;> rfl
  have e3:(nm.toList == [116,114,117,101])=false:=tl_false h3
  by_cases h4:nm=sFalse
  ·replace HS:=kp (HS.out.trans (if_pos (.inr (.inr h4))));have e4:(nm.toList == [102,97,108,115,101])=true:=tl_true h4;clear h2 h3 h4;go_wp2_with fail
   refine(HRs.out _).mono ?_;rintro e w' ⟨rfl,rfl⟩;have HFl:=kp (fail_any hF D2.out.maker 30 (by decide));go_wp2_with fail
   refine HFl.out.mono ?_;rintro e w7 ⟨rfl,hv,hk7,A7,c7,hm7,ht7⟩;have D7:=kp (D2.out.call hk7 hm7 ht7);unfold valV v0;clear hk7 hm7 ht7;obtain ⟨r0,r1,rf⟩:=Bk.c2 D7.out.cell;go_wp2_with fail
   rw [HS.out];refine D7.out.ret (v:=v0) hF Tryz.results57 ?_ ?_ v0_VI <;> rfl
  have e4:(nm.toList == [102,97,108,115,101])=false:=tl_false h4;replace HS:=kp (HS.out.trans (if_neg (fun h=>by rcases h with h | h | h <;> contradiction)))
  clear h2 h3 h4
  by_cases h5:nm=sPlus
  ·replace HS:=kp (HS.out.trans (if_pos (.inl h5)));have e5:(nm.toList == [43])=true:=tl_true h5;have HC:=kp (HSum.out _ _ _ D2.out);clear h5;go_wp2_with fail
   refine(HRs.out _).mono ?_;rintro e w' ⟨rfl,rfl⟩;rw [← HS.out] at HC;go_wp2_with fail
   refine HC.out.mono ?_;rintro e w7 ⟨rfl,hv,hk7,A7,c7,hm7,ht7⟩;have D7:=kp (D2.out.call hk7 hm7 ht7);unfold valV;clear hk7 hm7 ht7 q0 q1 q2 qf;obtain ⟨r0,r1,rf⟩:=Bk.c2 D7.out.cell;go_wp2_with fail
   refine D7.out.ret (v:=res.1) hF Tryz.results57 ?_ ?_ hv <;> rfl
  have e5:(nm.toList == [43])=false:=tl_false h5
  by_cases h6:nm=sMinus
  ·replace HS:=kp (HS.out.trans (if_pos (.inr h6)));have e6:(nm.toList == [45])=true:=tl_true h6;have HC:=kp (HSum.out _ _ _ D2.out);clear h5 h6;go_wp2_with fail
   refine(HRs.out _).mono ?_;rintro e w' ⟨rfl,rfl⟩;rw [← HS.out] at HC;go_wp2_with fail
   refine HC.out.mono ?_;rintro e w7 ⟨rfl,hv,hk7,A7,c7,hm7,ht7⟩;have D7:=kp (D2.out.call hk7 hm7 ht7);unfold valV;clear hk7 hm7 ht7 q0 q1 q2 qf;obtain ⟨r0,r1,rf⟩:=Bk.c2 D7.out.cell;go_wp2_with fail
   refine D7.out.ret (v:=res.1) hF Tryz.results57 ?_ ?_ hv <;> rfl
  have e6:(nm.toList == [45])=false:=tl_false h6;replace HS:=kp (HS.out.trans (if_neg (fun h=>by rcases h with h | h <;> contradiction)))
  clear h5 h6 HSum;have hsn:=fun(a:Addr) (m:Mode) (w:World)=>run_store Tryz.prog w a .nilFunc m rfl;have hsf:=fun(a:Addr) (m:Mode) (w:World) (fn:Fn) (x y:Array Value)=>run_store Tryz.prog w a (.func fn x y) m rfl
  cases hwn:wayN nm with
  | none =>
   rw [hwn] at HS HWa;have HW:=kp (show Calls Tryz.prog 94 #[.string nm] w2 fun e w'=>e=.returned (.tuple #[.agg #[.int .i64 0,.int .i64 0,.nilFunc],.bool false])/\Below w2.heap.size w2 w' from HWa.out w2);go_wp2_with fail
   refine(HRs.out _).mono ?_;rintro e w' ⟨rfl,rfl⟩;go_wp2_with fail
   refine HW.out.mono ?_;rintro e w3 ⟨rfl,hb3⟩;have D3:=kp (D2.out.below hb3);have X3:=kp (Bk.on X2.out hb3);clear hb3 q0 q1 q2 qf;have D4:=kp (D3.out.alloc (.cells #[.int .i64 0,.int .i64 0,.nilFunc] 159));have X4:=kp (Bk.keep X3.out (.cells #[.int .i64 0,.int .i64 0,.nilFunc] 159));go_upto_region 12 with fail
   generalize w3.alloc (.cells #[.int .i64 0,.int .i64 0,.nilFunc] 159)=w4 at *
   by_cases h0:tl.length=0
   ·have g0:((tl.length:Int) == 0)=true:=by rw [h0];rfl
    replace HS:=kp (show res=(v0,failS 30 st) by rw [HS.out];simp only [h0,if_true]);clear h0;have HFl:=kp (fail_any hF D4.out.maker 30 (by decide));go_wp2_with fail
    refine HFl.out.mono ?_;rintro e w7 ⟨rfl,hv,hk7,A7,c7,hm7,ht7⟩;have D7:=kp (D4.out.call hk7 hm7 ht7);unfold valV v0;clear hk7 hm7 ht7;obtain ⟨r0,r1,rf⟩:=Bk.c2 D7.out.cell;go_wp2_with fail
    rw [HS.out];refine D7.out.ret (v:=v0) hF Tryz.results57 ?_ ?_ v0_VI <;> rfl
   ·have g0:((tl.length:Int) == 0)=false:=by rw [beq_eq_false_iff_ne];omega
    replace HS:=kp (show res=resC by rw [HS.out];simp only [h0,if_false]);have HC:=kp (HCal.out _ _ _ L' cl' HL.out D4.out);clear h0;rw [← HS.out] at HC;go_wp2_with fail
    refine HC.out.mono ?_;rintro e w7 ⟨rfl,hv,hk7,A7,c7,hm7,ht7⟩;have D7:=kp (D4.out.call hk7 hm7 ht7);unfold valV;clear hk7 hm7 ht7;obtain ⟨r0,r1,rf⟩:=Bk.c2 D7.out.cell;go_wp2_with fail
    refine D7.out.ret (v:=res.1) hF Tryz.results57 ?_ ?_ hv <;> rfl
  | some q =>
   obtain ⟨k,lo,hi⟩:=q;rw [hwn] at HS HWa;obtain ⟨fv,hfv⟩:∃ fv,fnW k=fv:=⟨_,rfl⟩;have HW:=kp (show Calls Tryz.prog 94 #[.string nm] w2 fun e w'=>e=.returned (.tuple #[.agg #[.int .i64 (lo:Int),.int .i64 (hi:Int),.func (.func fv) #[] #[]],.bool true])/\Below w2.heap.size w2 w' by rw [← hfv];exact HWa.out w2);go_wp2_with fail
   refine(HRs.out _).mono ?_;rintro e w' ⟨rfl,rfl⟩;go_wp2_with fail
   refine HW.out.mono ?_;rintro e w3 ⟨rfl,hb3⟩;have D3:=kp (D2.out.below hb3);have X3:=kp (Bk.on X2.out hb3);clear hb3 q0 q1 q2 qf;have D4:=kp (D3.out.alloc (.cells #[.int .i64 (lo:Int),.int .i64 (hi:Int),.func (.func fv) #[] #[]] 159));have X4:=kp (Bk.keep X3.out (.cells #[.int .i64 (lo:Int),.int .i64 (hi:Int),.func (.func fv) #[] #[]] 159));have W4:=kp (Bk.new w3 (.cells #[.int .i64 (lo:Int),.int .i64 (hi:Int),.func (.func fv) #[] #[]] 159));have hwb:=D3.out.keeps.size;go_upto_region 12 with fail
   generalize w3.alloc (.cells #[.int .i64 (lo:Int),.int .i64 (hi:Int),.func (.func fv) #[] #[]] 159)=w4 at *;generalize w3.heap.size=wb at *
   replace HS:=kp (show res=if tl.length < lo\/hi < tl.length then(v0,failS 30 st)
    else if differsN nm x=1 then diffLM F.c r nm x st
    else if differsN nm x=2 then diffRM F.c r nm x st
    else if al.2.e≠0 then(v0,al.2) else makeM F.c k al.1 al.2 from HS.out)
   obtain ⟨y0,y1,y2,yf⟩:=Bk.c3 W4.out
   by_cases hlo:tl.length < lo
   ·replace HS:=kp (HS.out.trans (if_pos (.inl hlo)));have HFl:=kp (fail_any hF D4.out.maker 30 (by decide));go_wp2_with fail
    refine HFl.out.mono ?_;rintro e w7 ⟨rfl,hv,hk7,A7,c7,hm7,ht7⟩;have D7:=kp (D4.out.call hk7 hm7 ht7);unfold valV v0;clear hk7 hm7 ht7;obtain ⟨r0,r1,rf⟩:=Bk.c2 D7.out.cell;go_wp2_with fail
    rw [HS.out];refine D7.out.ret (v:=v0) hF Tryz.results57 ?_ ?_ v0_VI <;> rfl
   by_cases hhi:hi < tl.length
   ·replace HS:=kp (HS.out.trans (if_pos (.inr hhi)));have HFl:=kp (fail_any hF D4.out.maker 30 (by decide));go_wp2_with fail
    refine HFl.out.mono ?_;rintro e w7 ⟨rfl,hv,hk7,A7,c7,hm7,ht7⟩;have D7:=kp (D4.out.call hk7 hm7 ht7);unfold valV v0;clear hk7 hm7 ht7;obtain ⟨r0,r1,rf⟩:=Bk.c2 D7.out.cell;go_wp2_with fail
    rw [HS.out];refine D7.out.ret (v:=v0) hF Tryz.results57 ?_ ?_ v0_VI <;> rfl
   replace HS:=kp (HS.out.trans (if_neg (fun h=>by rcases h with h | h <;> contradiction)))
   obtain ⟨q0,q1,q2,qf⟩:=Bk.c3 X4.out;have HDf:=kp (HDif.out _ _ _ D4.out);have HWn:=kp hwn;clear hwn;go_wp2_with fail
   refine HDf.out.mono ?_;rintro e w5 ⟨rfl,hv,hk5,A5,c5,hm5,ht5⟩;have D5:=kp (D4.out.call hk5 hm5 ht5);have W5:=kp (D4.out.blk hk5 W4.out hwb);unfold valV;clear hk5 hm5 ht5 q0 q1 q2 qf y0 y1 y2 yf;obtain ⟨⟨dv,dok⟩,ds⟩:=dfo;have D6:=kp (D5.out.alloc (.cells #[.int .i64 dv.1,.int .i64 dv.2] 82));have Y6:=kp (Bk.new w5 (.cells #[.int .i64 dv.1,.int .i64 dv.2] 82));have W6:=kp (Bk.keep W5.out (.cells #[.int .i64 dv.1,.int .i64 dv.2] 82));rcases HDo.out with⟨hok,heq,hd12⟩ | ⟨heq,hd1,hd2⟩
   ·obtain rfl:dok=true:=hok
    replace HS:=kp (show res=(dv,ds) by
     rw [HS.out,← heq];rcases hd12 with h | h
     ·rw [if_pos h,if_pos h]
     ·rw [if_neg (by rw [h];decide),if_pos h,if_neg (by rw [h];decide)])
    have HV:=kp hv;clear heq hd12 hv HDo;go_upto_region 18 with fail
    generalize w5.alloc (.cells #[.int .i64 dv.1,.int .i64 dv.2] 82)=w6 at *;obtain ⟨z0,z1,zf⟩:=Bk.c2 Y6.out;obtain ⟨r0,r1,rf⟩:=Bk.c2 D6.out.cell;go_wp2_with fail
    rw [HS.out];refine D6.out.ret (v:=dv) hF Tryz.results57 ?_ ?_ HV.out <;> rfl
   ·simp only [Prod.mk.injEq] at heq;obtain ⟨⟨rfl,rfl⟩,rfl⟩:=heq;replace HS:=kp (show res=if al.2.e≠0 then(v0,al.2) else makeM F.c k al.1 al.2 by rw [HS.out,if_neg hd1,if_neg hd2]);clear hd1 hd2 hv HDo;go_upto_region 18 with fail
    generalize w5.alloc (.cells #[.int .i64 v0.1,.int .i64 v0.2] 82)=w6 at *;have HA:=kp (HAll.out _ _ _ L' cl' HL.out D6.out);obtain ⟨vs,sa⟩:=al;go_wp2_with fail
    refine HA.out.mono ?_;rintro e w7 ⟨L7,cl7,rfl,hcl7,hcm7,hv7,hk7,A7,c7,hm7,ht7⟩;have D7:=kp (D6.out.call hk7 hm7 ht7);have W7:=kp (D6.out.blk hk7 W6.out hwb);have V7:=kp (hv7.valsS (F:=F) (by have:=D6.out.keeps.size;omega));have hcl7':vs.length<=cl7:=hcl7;have hvt:vs.length=tl.length:=HVl.out;clear hk7 hm7 ht7 hcl7 hcm7 hv7;obtain ⟨m0,m1,m2,m3,m4,m5,m6,m7,m8,mf⟩:=Bk.c9 D7.out.maker.blk;obtain ⟨y0,y1,y2,yf⟩:=Bk.c3 W7.out
    by_cases he:sa.e=0
    ·have he1:(sa.e != 0)=false:=by simp [he]
     replace HS:=kp (show res=makeM F.c k vs sa by rw [HS.out,if_neg (by simp [he])]);have HMk:=kp (make_any hF D7.out.maker HWn.out (by omega) (by omega) cl7 hcl7' V7.out);rw [← HS.out,hfv] at HMk;have hcf:=fun args W=>way_call HWn.out args W;rw [hfv] at hcf;clear he hvt hcl7';go_wp2_with fail
     refine HMk.out.mono ?_;rintro e w8 ⟨rfl,hv,hk8,A8,c8,hm8,ht8⟩;have D8:=kp (D7.out.call hk8 hm8 ht8);unfold valV;clear hk8 hm8 ht8 m0 m1 m2 m3 m4 m5 m6 m7 m8 mf y0 y1 y2 yf;obtain ⟨r0,r1,rf⟩:=Bk.c2 D8.out.cell;go_wp2_with fail
     refine D8.out.ret (v:=res.1) hF Tryz.results57 ?_ ?_ hv <;> rfl
    ·have he1:(sa.e != 0)=true:=by rw [bne_iff_ne];exact he
     replace HS:=kp (show res=(v0,sa) by rw [HS.out,if_pos he]);clear he hvt hcl7';obtain ⟨r0,r1,rf⟩:=Bk.c2 D7.out.cell;go_wp2_with fail
     rw [HS.out];refine D7.out.ret (v:=v0) hF Tryz.results57 ?_ ?_ v0_VI <;> rfl
theorem EnvR.vi {w:World}:∀ {ls:List Env} {p:Option Addr},EnvR w p ls->∀ q ∈ ls.flatten,VI q.2
 | [],_,_,q,hq=>by cases hq
 | l :: r,p,⟨b,ap,m,n,_,_,_,h4,h5⟩,q,hq=>by
  rw [List.flatten_cons] at hq;rcases List.mem_append.1 hq with hq | hq
  ·exact h4 q hq
  ·exact EnvR.vi h5 q hq
theorem find_vi {env:Env} (h:∀ q ∈ env,VI q.2) {s:ByteArray} {v:V} (hf:findE env s=some v):VI v:=by
 unfold findE at hf;rw [Option.map_eq_some_iff] at hf;obtain ⟨q,hq,rfl⟩:=hf;exact h q (List.mem_of_find?_eq_some hq)
theorem isList_not {x:Sexp} (h:isListB x=false):¬ (x.kind=3/\0 < x.l.length/\(nthX x 0).kind=0):=by
 rintro ⟨h3,hp,h0⟩;unfold isListB at h;unfold nthX at h0
 cases hl:x.l with
 | nil=>rw [hl] at hp;simp at hp
 | cons y r =>
  rw [hl] at h h0;simp only [h3,decide_true,Bool.true_and,decide_eq_false_iff_not] at h;exact h h0
theorem term_step {F:Fix} (hF:FixOk F) {known:Nat} {x:Sexp} (hT:∀ y:Sexp,y.full < x.full->TermC F known y) (hB:∀ (k:Nat) (m:Macro),F.c.g.macros[k]?=some m->k < known->TermC F k m.body) (hfx:x.full<=3000000):TermC F known x:=by
 intro w st At ct A c p env hm hx he;rw [termP_eq];have hlt:=hm.lt;have HX:=kp hx;have B1:=kp ((brq w).alloc nlq (.cells #[.int .i8 x.kind,.string x.text,.slice A x.l.length c] 40));have Z1:=kp (show(w.alloc (.cells #[.int .i8 x.kind,.string x.text,.slice A x.l.length c] 40)).heap.size=w.heap.size+1 by simp);have D1:=kp (Mid.newOn hm B1.out);have X1:=kp (Bk.keep (Bk.new w (.cells #[.int .i8 x.kind,.string x.text,.slice A x.l.length c] 40)) (.cells #[.int .i64 0,.int .i64 0] 82));rw [Z1.out] at D1;have hxt:=hx.opens.2.2.2.1;have HLi:=kp (fun(hli:isListB x=true) (W:World) (A':Option Addr) (c':Nat) (h:Mid F known w st.t At (w.heap.size+1) W st A' c')=>elist_any hF hT hB hfx hli h.maker hx (he.on h.keeps));have HCa:=kp (fun(W:World) (A':Option Addr) (c':Nat) (h:Mid F known w st.t At (w.heap.size+1) W st A' c')=>call_any hF (l:=[]) (fun y hy=>by cases hy) hB h.maker x.text (A:=none) 0 (.inl rfl) (by simp) (he.on h.keeps))
 have HFi:=kp (fun(W:World) (hk:Keeps (onMb F) w W)=>show Calls Tryz.prog 59 #[.pointer p,.string x.text] W (FindPost env x.text W) by
  obtain ⟨ls,h1,h2⟩:=(he.on hk).now;have:=find_any h2 x.text hxt
  rwa [h1] at this)
 have HVi:=kp (show ∀ v,findE env x.text=some v->VI v by
  obtain ⟨ls,h1,h2⟩:=he.now;subst h1;exact fun v hv=>find_vi h2.vi hv)
 have HRs:=kp (Lx.reserved_any x.text)
 have HS:=kp (show termStep F.c (termP F.c) known x env st=if st.e≠0 then(v0,st)
  else if isNumX x then opM F.c 10 (numberM F.c x st).1 [] (numberM F.c x st).2
  else if isListB x then listM F.c (termP F.c) known x env st
  else if x.kind≠0 then(v0,failS 30 st)
  else match findE env x.text with
   | some v=>(v,st)
   | none =>
    if x.text=sTrue then opM F.c 0 0 [] st
    else if x.text=sFalse then opM F.c 1 0 [(opM F.c 0 0 [] st).1] (opM F.c 0 0 [] st).2
    else if Lx.resB (Lx.bs x.text)=true then(v0,failS 30 st)
    else callM F.c (termP F.c) known x.text [] env st from rfl)
 have HLn:=kp (fun h=>isList_not (x:=x) h);have HHd:=kp (fun h=>head_nth (x:=x) h);clear hm hT hB hx he hfx;generalize termStep F.c (termP F.c) known x env st=res at *;generalize listM F.c (termP F.c) known x env st=resL at *;generalize callM F.c (termP F.c) known x.text [] env st=resC at *
 go_enter Tryz.func30,Tryz.ntmps30
 go_upto_region 1 with fail
 generalize (w.alloc (.cells #[.int .i8 x.kind,.string x.text,.slice A x.l.length c] 40)).alloc (.cells #[.int .i64 0,.int .i64 0] 82)=w1 at *;obtain ⟨q0,q1,q2,qf⟩:=Bk.c3 X1.out;obtain ⟨m0,m1,m2,m3,m4,m5,m6,m7,m8,mf⟩:=Bk.c9 D1.out.maker.blk
 by_cases he:st.e=0
 ·have he1:(st.e != 0)=false:=by simp [he]
  replace HS:=kp (HS.out.trans (if_neg (by simp [he])));have HNu:=kp (isnum_any (HX.out.on D1.out.maker.below));clear he
  cases hn:isNumX x with
  | true =>
   rw [hn] at HNu HS;replace HS:=kp (show res=opM F.c 10 (numberM F.c x st).1 [] (numberM F.c x st).2 from HS.out);have HLim:=kp (show -4611686018427387904<=(numberM F.c x st).1/\(numberM F.c x st).1<=4611686018427387904 by rw [numberM_fst];exact numR_lim x);clear hn;go_wp2_with fail
   refine HNu.out.mono ?_;rintro e w2 ⟨rfl,hb2⟩;have D2:=kp (D1.out.below hb2);have X2:=kp (Bk.on X1.out hb2);clear hb2 q0 q1 q2 qf m0 m1 m2 m3 m4 m5 m6 m7 m8 mf;obtain ⟨q0,q1,q2,qf⟩:=Bk.c3 X2.out;have HNm:=kp (number_any hF D2.out.maker (HX.out.on D2.out.maker.below));generalize numberM F.c x st=nr at *;obtain ⟨n,ns⟩:=nr;go_wp2_with fail
   refine HNm.out.mono ?_;rintro e w3 ⟨rfl,hk3,A3,c3,hm3,ht3⟩;have D3:=kp (D2.out.call hk3 hm3 ht3);clear hk3 hm3 ht3 q0 q1 q2 qf;have hlim:=HLim.out;have HOp:=kp (op_any hF D3.out.maker 10 n (I8.of (by decide) (by decide)) ⟨by omega,by omega⟩ (L:=none) (l:=[]) 0 (.inl rfl) (by simp));rw [← HS.out] at HOp;clear hlim HLim;go_wp2_with fail
   refine HOp.out.mono ?_;rintro e w7 ⟨rfl,hv,hk7,A7,c7,hm7,ht7⟩;have D7:=kp (D3.out.call hk7 hm7 ht7);unfold valV;clear hk7 hm7 ht7;obtain ⟨r0,r1,rf⟩:=Bk.c2 D7.out.cell;go_wp2_with fail
   refine D7.out.ret (v:=res.1) hF Tryz.results30 ?_ ?_ hv <;> rfl
  | false =>
   rw [hn] at HNu HS
   replace HS:=kp (show res=if isListB x then resL
    else if x.kind≠0 then(v0,failS 30 st)
    else match findE env x.text with
     | some v=>(v,st)
     | none =>
      if x.text=sTrue then opM F.c 0 0 [] st
      else if x.text=sFalse then opM F.c 1 0 [(opM F.c 0 0 [] st).1] (opM F.c 0 0 [] st).2
      else if Lx.resB (Lx.bs x.text)=true then(v0,failS 30 st)
      else resC from HS.out)
   clear hn;go_wp2_with fail
   refine HNu.out.mono ?_;rintro e w2 ⟨rfl,hb2⟩;have D2:=kp (D1.out.below hb2);have X2:=kp (Bk.on X1.out hb2);clear hb2 q0 q1 q2 qf m0 m1 m2 m3 m4 m5 m6 m7 m8 mf HNu;obtain ⟨q0,q1,q2,qf⟩:=Bk.c3 X2.out;have HNth:=kp (fun(hp:0 < x.l.length)=>nth_xs HX.out (i:=0) hp)
   cases hli:isListB x with
   | true =>
    rw [hli] at HS;replace HS:=kp (show res=resL from HS.out);obtain ⟨_,hk3,hp0⟩:=HHd.out hli;have d1:(x.kind == 3)=true:=by simp [hk3]
    have d2:(0:Int) < (x.l.length:Int):=by omega
    obtain ⟨b,o,A0,c0,rfl,_,hc0⟩:=HNth.out hp0;obtain ⟨z0,_,_⟩:=hc0 w2 D2.out.maker.below;rw [Nat.zero_mul,Nat.add_zero] at z0
    have d3:((nthX x 0).kind == 0)=true:=by
     have:=hli;unfold isListB at this;unfold nthX
     cases hl:x.l with
     | nil=>rw [hl] at hp0;simp at hp0
     | cons y r=>rw [hl] at this;simp only [Bool.and_eq_true,decide_eq_true_eq] at this;simp [this.2]
    have HC:=kp (HLi.out hli _ _ _ D2.out);rw [← HS.out] at HC;clear hli hk3 hp0 hc0;generalize (nthX x 0).kind=zk at *;go_wp2_with fail
    refine HC.out.mono ?_;rintro e w7 ⟨rfl,hv,hk7,A7,c7,hm7,ht7⟩;have D7:=kp (D2.out.call hk7 hm7 ht7);unfold valV;clear hk7 hm7 ht7;obtain ⟨r0,r1,rf⟩:=Bk.c2 D7.out.cell;go_wp2_with fail
    refine D7.out.ret (v:=res.1) hF Tryz.results30 ?_ ?_ hv <;> rfl
   | false =>
    rw [hli] at HS;have hno:=HLn.out hli
    replace HS:=kp (show res=if x.kind≠0 then(v0,failS 30 st)
     else match findE env x.text with
      | some v=>(v,st)
      | none =>
       if x.text=sTrue then opM F.c 0 0 [] st
       else if x.text=sFalse then opM F.c 1 0 [(opM F.c 0 0 [] st).1] (opM F.c 0 0 [] st).2
       else if Lx.resB (Lx.bs x.text)=true then(v0,failS 30 st)
       else resC from HS.out)
    clear hli
    by_cases hk0:x.kind=0
    ·have d0:(x.kind != 0)=false:=by simp [hk0]
     have d1:(x.kind == 3)=false:=by rw [hk0];rfl
     replace HS:=kp (HS.out.trans (if_neg (fun h=>h hk0)));clear hno hk0 HLn HHd HNth HLi;have HF1:=kp (HFi.out w2 D2.out.keeps);unfold FindPost at HF1
     cases hf:findE env x.text with
     | some v =>
      rw [hf] at HS HF1;replace HS:=kp (show res=(v,st) from HS.out);have HF2:=kp (show Calls Tryz.prog 59 #[.pointer p,.string x.text] w2 fun e w'=>e=.returned (.tuple #[.agg #[.int .i64 v.1,.int .i64 v.2],.bool true])/\Below w2.heap.size w2 w' from HF1.out);have hv:=HVi.out v hf;clear hf HF1 HVi;go_wp2_with fail
      refine HF2.out.mono ?_;rintro e w3 ⟨rfl,hb3⟩;have D3:=kp (D2.out.below hb3);clear hb3 q0 q1 q2 qf;have D4:=kp (D3.out.alloc (.cells #[.int .i64 v.1,.int .i64 v.2] 82));have V4:=kp (Bk.new w3 (.cells #[.int .i64 v.1,.int .i64 v.2] 82));go_upto_region 10 with fail
      generalize w3.alloc (.cells #[.int .i64 v.1,.int .i64 v.2] 82)=w4 at *;obtain ⟨v0',v1',vf⟩:=Bk.c2 V4.out;obtain ⟨r0,r1,rf⟩:=Bk.c2 D4.out.cell;go_wp2_with fail
      rw [HS.out];refine D4.out.ret (v:=v) hF Tryz.results30 ?_ ?_ hv <;> rfl
     | none =>
      rw [hf] at HS HF1
      replace HS:=kp (show res=if x.text=sTrue then opM F.c 0 0 [] st
       else if x.text=sFalse then opM F.c 1 0 [(opM F.c 0 0 [] st).1] (opM F.c 0 0 [] st).2
       else if Lx.resB (Lx.bs x.text)=true then(v0,failS 30 st)
       else resC from HS.out)
      have HF2:=kp (show Calls Tryz.prog 59 #[.pointer p,.string x.text] w2 fun e w'=>e=.returned (.tuple #[.agg #[.int .i64 0,.int .i64 0],.bool false])/\Below w2.heap.size w2 w' from HF1.out);clear hf HF1 HVi;go_wp2_with fail
      refine HF2.out.mono ?_;rintro e w3 ⟨rfl,hb3⟩;have D3:=kp (D2.out.below hb3);have X3:=kp (Bk.on X2.out hb3);clear hb3 q0 q1 q2 qf;have D4:=kp (D3.out.alloc (.cells #[.int .i64 0,.int .i64 0] 82));have X4:=kp (Bk.keep X3.out (.cells #[.int .i64 0,.int .i64 0] 82));go_upto_region 10 with fail
      generalize w3.alloc (.cells #[.int .i64 0,.int .i64 0] 82)=w4 at *;obtain ⟨q0,q1,q2,qf⟩:=Bk.c3 X4.out;have HOp:=kp (op_any hF D4.out.maker 0 0 (I8.of (by decide) (by decide)) v0_VI.1 (L:=none) (l:=[]) 0 (.inl rfl) (by simp))
      by_cases h1:x.text=sTrue
      ·replace HS:=kp (HS.out.trans (if_pos h1));have e1:(x.text.toList == [116,114,117,101])=true:=tl_true h1;rw [← HS.out] at HOp;clear h1;go_wp2_with fail
       refine HOp.out.mono ?_;rintro e w7 ⟨rfl,hv,hk7,A7,c7,hm7,ht7⟩;have D7:=kp (D4.out.call hk7 hm7 ht7);unfold valV;clear hk7 hm7 ht7;obtain ⟨r0,r1,rf⟩:=Bk.c2 D7.out.cell;go_wp2_with fail
       refine D7.out.ret (v:=res.1) hF Tryz.results30 ?_ ?_ hv <;> rfl
      replace HS:=kp (HS.out.trans (if_neg h1));have e1:(x.text.toList == [116,114,117,101])=false:=tl_false h1
      by_cases h2:x.text=sFalse
      ·replace HS:=kp (HS.out.trans (if_pos h2));have e2:(x.text.toList == [102,97,108,115,101])=true:=tl_true h2;clear h1 h2;generalize opM F.c 0 0 [] st=pr at *;obtain ⟨pv,ps⟩:=pr;go_wp2_with fail
       refine HOp.out.mono ?_;rintro e w5 ⟨rfl,hv,hk5,A5,c5,hm5,ht5⟩;have D5:=kp (D4.out.call hk5 hm5 ht5);have VP:=kp hv;unfold valV;clear hv hk5 hm5 ht5 q0 q1 q2 qf;have DB:=kp (D5.out.alloc (.cells #[.int .i64 pv.1,.int .i64 pv.2] 82));have NB:=kp (Bk.new w5 (.cells #[.int .i64 pv.1,.int .i64 pv.2] 82));have HO2:=kp (op_any hF DB.out.maker 1 0 (I8.of (by decide) (by decide)) v0_VI.1 1 (lies_one NB.out VP.out) (by simp));rw [show opM F.c 1 0 [pv] ps=res from HS.out.symm] at HO2;go_wp2_with fail
       refine HO2.out.mono ?_;rintro e w7 ⟨rfl,hv,hk7,A7,c7,hm7,ht7⟩;have D7:=kp (DB.out.call hk7 hm7 ht7);unfold valV;clear hk7 hm7 ht7;obtain ⟨r0,r1,rf⟩:=Bk.c2 D7.out.cell;go_wp2_with fail
       refine D7.out.ret (v:=res.1) hF Tryz.results30 ?_ ?_ hv <;> rfl
      replace HS:=kp (HS.out.trans (if_neg h2));have e2:(x.text.toList == [102,97,108,115,101])=false:=tl_false h2;clear h1 h2
      by_cases h3:Lx.resB (Lx.bs x.text)=true
      ·replace HS:=kp (HS.out.trans (if_pos h3));rw [h3] at HRs;clear h3;have D2:=D4;go_wp2_with fail
       refine(HRs.out _).mono ?_;rintro e w' ⟨rfl,rfl⟩;have HFl:=kp (fail_any hF D2.out.maker 30 (by decide));go_wp2_with fail
       refine HFl.out.mono ?_;rintro e w7 ⟨rfl,hv,hk7,A7,c7,hm7,ht7⟩;have D7:=kp (D2.out.call hk7 hm7 ht7);unfold valV v0;clear hk7 hm7 ht7;obtain ⟨r0,r1,rf⟩:=Bk.c2 D7.out.cell;go_wp2_with fail
       rw [HS.out];refine D7.out.ret (v:=v0) hF Tryz.results30 ?_ ?_ v0_VI <;> rfl
      ·replace HS:=kp (HS.out.trans (if_neg h3));rw [eq_false_of_ne_true h3] at HRs;clear h3;have HC:=kp (HCa.out _ _ _ D4.out);rw [← HS.out] at HC;go_wp2_with fail
       refine(HRs.out _).mono ?_;rintro e w' ⟨rfl,rfl⟩;go_wp2_with fail
       refine HC.out.mono ?_;rintro e w7 ⟨rfl,hv,hk7,A7,c7,hm7,ht7⟩;have D7:=kp (D4.out.call hk7 hm7 ht7);unfold valV;clear hk7 hm7 ht7;obtain ⟨r0,r1,rf⟩:=Bk.c2 D7.out.cell;go_wp2_with fail
       refine D7.out.ret (v:=res.1) hF Tryz.results30 ?_ ?_ hv <;> rfl
    ·have d0:(x.kind != 0)=true:=by rw [bne_iff_ne];exact hk0
     replace HS:=kp (HS.out.trans (if_pos hk0));clear hk0
     by_cases hk3:x.kind=3
     ·have d1:(x.kind == 3)=true:=by simp [hk3]
      by_cases hp0:0 < x.l.length
      ·have d2:(0:Int) < (x.l.length:Int):=by omega
       obtain ⟨b,o,A0,c0,rfl,_,hc0⟩:=HNth.out hp0;obtain ⟨z0,_,_⟩:=hc0 w2 D2.out.maker.below;rw [Nat.zero_mul,Nat.add_zero] at z0;have d3:((nthX x 0).kind == 0)=false:=by rw [beq_eq_false_iff_ne];exact fun h=>hno ⟨hk3,hp0,h⟩
       clear hno hk3 hp0 hc0;generalize (nthX x 0).kind=zk at *;have HFl:=kp (fail_any hF D2.out.maker 30 (by decide));go_wp2_with fail
       refine HFl.out.mono ?_;rintro e w7 ⟨rfl,hv,hk7,A7,c7,hm7,ht7⟩;have D7:=kp (D2.out.call hk7 hm7 ht7);unfold valV v0;clear hk7 hm7 ht7;obtain ⟨r0,r1,rf⟩:=Bk.c2 D7.out.cell;go_wp2_with fail
       rw [HS.out];refine D7.out.ret (v:=v0) hF Tryz.results30 ?_ ?_ v0_VI <;> rfl
      ·have d2:decide ((0:Int) < (x.l.length:Int))=false:=dfq (by omega);have d3:¬ 0 < x.l.length:=hp0;clear hno hk3 hp0;have HFl:=kp (fail_any hF D2.out.maker 30 (by decide));go_wp2_with fail
       refine HFl.out.mono ?_;rintro e w7 ⟨rfl,hv,hk7,A7,c7,hm7,ht7⟩;have D7:=kp (D2.out.call hk7 hm7 ht7);unfold valV v0;clear hk7 hm7 ht7;obtain ⟨r0,r1,rf⟩:=Bk.c2 D7.out.cell;go_wp2_with fail
       rw [HS.out];refine D7.out.ret (v:=v0) hF Tryz.results30 ?_ ?_ v0_VI <;> rfl
     ·have d1:(x.kind == 3)=false:=by simp [hk3]
      clear hno hk3;have HFl:=kp (fail_any hF D2.out.maker 30 (by decide));go_wp2_with fail
      refine HFl.out.mono ?_;rintro e w7 ⟨rfl,hv,hk7,A7,c7,hm7,ht7⟩;have D7:=kp (D2.out.call hk7 hm7 ht7);unfold valV v0;clear hk7 hm7 ht7;obtain ⟨r0,r1,rf⟩:=Bk.c2 D7.out.cell;go_wp2_with fail
      rw [HS.out];refine D7.out.ret (v:=v0) hF Tryz.results30 ?_ ?_ v0_VI <;> rfl
 ·have he1:(st.e != 0)=true:=by rw [bne_iff_ne];exact he
  replace HS:=kp (HS.out.trans (if_pos he));obtain ⟨r0,r1,rf⟩:=Bk.c2 D1.out.cell;clear he;go_wp2_with fail
  rw [HS.out];refine D1.out.ret (v:=v0) hF Tryz.results30 ?_ ?_ v0_VI <;> rfl
theorem term_any {F:Fix} (hF:FixOk F) (hM:∀ m ∈ F.c.g.macros,m.body.full<=3000000):∀ (n known:Nat) (x:Sexp),need F.c.g known x < n->x.full<=3000000->TermC F known x
 | 0,_,_,h,_=>by omega
 | n+1,known,x,h,hx=>by
  refine term_step hF (fun y hy=>?_) (fun k m hm hk=>?_) hx
  ·exact term_any hF hM n known y (by unfold need at *;omega) (by omega)
  ·exact term_any hF hM n k m.body (by have:=sumB_lt hm hk;unfold need at *;omega) (hM m (mgq hm))
end El
end Go.Proofs.YtpmdcckapddchaaGreatDoor
