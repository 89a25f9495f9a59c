import Derived.Test.YtpmdcckapddchaaGreatDoorShort
import Derived.Test.YtpmdcckapddchaaGreatDoorMzo
import Derived.Test.YtpmdcckapddchaaGreatDoorMzb
import Derived.Test.YtpmdcckapddchaaGreatDoorMk
import Derived.Test.YtpmdcckapddchaaGreatDoorMe
/- merged by wip/merge.py from: ElTerm ElSort -/
set_option maxRecDepth 100000
set_option maxHeartbeats 51200000
namespace Go.Proofs.YtpmdcckapddchaaGreatDoor
namespace El
open Go.RowKit Go.Maps Dt Sg
theorem EnvR.vi {w:World}:∀ {ls:List Env} {p:Option Addr},EnvR w p ls->∀ q ∈ ls.flatten,VI q.2
 | [],_,_,q,hq=>by cases hq
 | l :: r,p,⟨b,ap,m,n,_,_,_,h4,h5⟩,q,hq=>by
  rw [List.flatten_cons] at hq;rcases List.mem_append.1 hq with hq | hq
  ·exact h4 q hq
  ·exact EnvR.vi h5 q hq
theorem find_vi {env:Env} (h:∀ q ∈ env,VI q.2) {s:ByteArray} {v:V} (hf:findE env s=some v):VI v:=by
 unfold findE at hf;rw [Option.map_eq_some_iff] at hf;obtain ⟨q,hq,rfl⟩:=hf;exact h q (List.mem_of_find?_eq_some hq)
theorem isList_not {x:Sexp} (h:isListB x=false):¬ (x.kind=3/\0 < x.l.length/\(nthX x 0).kind=0):=by
 rintro ⟨h3,hp,h0⟩;unfold isListB at h;unfold nthX at h0
 cases hl:x.l with
 | nil=>rw [hl] at hp;simp at hp
 | cons y r =>
  rw [hl] at h h0;simp only [h3,decide_true,Bool.true_and,decide_eq_false_iff_not] at h;exact h h0
theorem term_step {F:Fix} (hF:FixOk F) {known:Nat} {x:Sexp} (hT:∀ y:Sexp,y.full < x.full->TermC F known y) (hB:∀ (k:Nat) (m:Macro),F.c.g.macros[k]?=some m->k < known->TermC F k m.body) (hfx:x.full<=3000000):TermC F known x:=by
 intro w st At ct A c p env hm hx he;rw [termP_eq];have hlt:=hm.lt;have HX:=kp hx;have B1:=kp ((brq w).alloc nlq (.cells #[.int .i8 x.kind,.string x.text,.slice A x.l.length c] 40));have Z1:=kp (show(w.alloc (.cells #[.int .i8 x.kind,.string x.text,.slice A x.l.length c] 40)).heap.size=w.heap.size+1 by simp);have D1:=kp (Mid.newOn hm B1.out);have X1:=kp (Bk.keep (Bk.new w (.cells #[.int .i8 x.kind,.string x.text,.slice A x.l.length c] 40)) (.cells #[.int .i64 0,.int .i64 0] 82));rw [Z1.out] at D1;have hxt:=hx.opens.2.2.2.1;have HLi:=kp (fun(hli:isListB x=true) (W:World) (A':Option Addr) (c':Nat) (h:Mid F known w st.t At (w.heap.size+1) W st A' c')=>elist_any hF hT hB hfx hli h.maker hx (he.on h.keeps));have HCa:=kp (fun(W:World) (A':Option Addr) (c':Nat) (h:Mid F known w st.t At (w.heap.size+1) W st A' c')=>call_any hF (l:=[]) (fun y hy=>by cases hy) hB h.maker x.text (A:=none) 0 (.inl rfl) (by simp) (he.on h.keeps))
 have HFi:=kp (fun(W:World) (hk:Keeps (onMb F) w W)=>show Calls Tryz.prog 59 #[.pointer p,.string x.text] W (FindPost env x.text W) by
  obtain ⟨ls,h1,h2⟩:=(he.on hk).now;have:=find_any h2 x.text hxt
  rwa [h1] at this)
 have HVi:=kp (show ∀ v,findE env x.text=some v->VI v by
  obtain ⟨ls,h1,h2⟩:=he.now;subst h1;exact fun v hv=>find_vi h2.vi hv)
 have HRs:=kp (Lx.reserved_any x.text)
 have HS:=kp (show termStep F.c (termP F.c) known x env st=if st.e≠0 then(v0,st)
  else if isNumX x then opM F.c 10 (numberM F.c x st).1 [] (numberM F.c x st).2
  else if isListB x then listM F.c (termP F.c) known x env st
  else if x.kind≠0 then(v0,failS 30 st)
  else match findE env x.text with
   | some v=>(v,st)
   | none =>
    if x.text=sTrue then opM F.c 0 0 [] st
    else if x.text=sFalse then opM F.c 1 0 [(opM F.c 0 0 [] st).1] (opM F.c 0 0 [] st).2
    else if Lx.resB (Lx.bs x.text)=true then(v0,failS 30 st)
    else callM F.c (termP F.c) known x.text [] env st from rfl)
 have HLn:=kp (fun h=>isList_not (x:=x) h);have HHd:=kp (fun h=>head_nth (x:=x) h);clear hm hT hB hx he hfx;generalize termStep F.c (termP F.c) known x env st=res at *;generalize listM F.c (termP F.c) known x env st=resL at *;generalize callM F.c (termP F.c) known x.text [] env st=resC at *
 go_enter Tryz.func30,Tryz.ntmps30
 go_upto_region 1 with fail
 generalize (w.alloc (.cells #[.int .i8 x.kind,.string x.text,.slice A x.l.length c] 40)).alloc (.cells #[.int .i64 0,.int .i64 0] 82)=w1 at *;obtain ⟨q0,q1,q2,qf⟩:=Bk.c3 X1.out;obtain ⟨m0,m1,m2,m3,m4,m5,m6,m7,m8,mf⟩:=Bk.c9 D1.out.maker.blk
 by_cases he:st.e=0
 ·have he1:(st.e != 0)=false:=by simp [he]
  replace HS:=kp (HS.out.trans (if_neg (by simp [he])));have HNu:=kp (isnum_any (HX.out.on D1.out.maker.below));clear he
  cases hn:isNumX x with
  | true =>
   rw [hn] at HNu HS;replace HS:=kp (show res=opM F.c 10 (numberM F.c x st).1 [] (numberM F.c x st).2 from HS.out);have HLim:=kp (show -4611686018427387904<=(numberM F.c x st).1/\(numberM F.c x st).1<=4611686018427387904 by rw [numberM_fst];exact numR_lim x);clear hn;go_wp2_with fail
   refine HNu.out.mono ?_;rintro e w2 ⟨rfl,hb2⟩;have D2:=kp (D1.out.below hb2);have X2:=kp (Bk.on X1.out hb2);clear hb2 q0 q1 q2 qf m0 m1 m2 m3 m4 m5 m6 m7 m8 mf;obtain ⟨q0,q1,q2,qf⟩:=Bk.c3 X2.out;have HNm:=kp (number_any hF D2.out.maker (HX.out.on D2.out.maker.below));generalize numberM F.c x st=nr at *;obtain ⟨n,ns⟩:=nr;go_wp2_with fail
   refine HNm.out.mono ?_;rintro e w3 ⟨rfl,hk3,A3,c3,hm3,ht3⟩;have D3:=kp (D2.out.call hk3 hm3 ht3);clear hk3 hm3 ht3 q0 q1 q2 qf;have hlim:=HLim.out;have HOp:=kp (op_any hF D3.out.maker 10 n (I8.of (by decide) (by decide)) ⟨by omega,by omega⟩ (L:=none) (l:=[]) 0 (.inl rfl) (by simp));rw [← HS.out] at HOp;clear hlim HLim;go_wp2_with fail
   refine HOp.out.mono ?_;rintro e w7 ⟨rfl,hv,hk7,A7,c7,hm7,ht7⟩;have D7:=kp (D3.out.call hk7 hm7 ht7);unfold valV;clear hk7 hm7 ht7;obtain ⟨r0,r1,rf⟩:=Bk.c2 D7.out.cell;go_wp2_with fail
   refine D7.out.ret (v:=res.1) hF Tryz.results30 ?_ ?_ hv <;> rfl
  | false =>
   rw [hn] at HNu HS
   replace HS:=kp (show res=if isListB x then resL
    else if x.kind≠0 then(v0,failS 30 st)
    else match findE env x.text with
     | some v=>(v,st)
     | none =>
      if x.text=sTrue then opM F.c 0 0 [] st
      else if x.text=sFalse then opM F.c 1 0 [(opM F.c 0 0 [] st).1] (opM F.c 0 0 [] st).2
      else if Lx.resB (Lx.bs x.text)=true then(v0,failS 30 st)
      else resC from HS.out)
   clear hn;go_wp2_with fail
   refine HNu.out.mono ?_;rintro e w2 ⟨rfl,hb2⟩;have D2:=kp (D1.out.below hb2);have X2:=kp (Bk.on X1.out hb2);clear hb2 q0 q1 q2 qf m0 m1 m2 m3 m4 m5 m6 m7 m8 mf HNu;obtain ⟨q0,q1,q2,qf⟩:=Bk.c3 X2.out;have HNth:=kp (fun(hp:0 < x.l.length)=>nth_xs HX.out (i:=0) hp)
   cases hli:isListB x with
   | true =>
    rw [hli] at HS;replace HS:=kp (show res=resL from HS.out);obtain ⟨_,hk3,hp0⟩:=HHd.out hli;have d1:(x.kind == 3)=true:=by simp [hk3]
    have d2:(0:Int) < (x.l.length:Int):=by omega
    obtain ⟨b,o,A0,c0,rfl,_,hc0⟩:=HNth.out hp0;obtain ⟨z0,_,_⟩:=hc0 w2 D2.out.maker.below;rw [Nat.zero_mul,Nat.add_zero] at z0
    have d3:((nthX x 0).kind == 0)=true:=by
     have:=hli;unfold isListB at this;unfold nthX
     cases hl:x.l with
     | nil=>rw [hl] at hp0;simp at hp0
     | cons y r=>rw [hl] at this;simp only [Bool.and_eq_true,decide_eq_true_eq] at this;simp [this.2]
    have HC:=kp (HLi.out hli _ _ _ D2.out);rw [← HS.out] at HC;clear hli hk3 hp0 hc0;generalize (nthX x 0).kind=zk at *;go_wp2_with fail
    refine HC.out.mono ?_;rintro e w7 ⟨rfl,hv,hk7,A7,c7,hm7,ht7⟩;have D7:=kp (D2.out.call hk7 hm7 ht7);unfold valV;clear hk7 hm7 ht7;obtain ⟨r0,r1,rf⟩:=Bk.c2 D7.out.cell;go_wp2_with fail
    refine D7.out.ret (v:=res.1) hF Tryz.results30 ?_ ?_ hv <;> rfl
   | false =>
    rw [hli] at HS;have hno:=HLn.out hli
    replace HS:=kp (show res=if x.kind≠0 then(v0,failS 30 st)
     else match findE env x.text with
      | some v=>(v,st)
      | none =>
       if x.text=sTrue then opM F.c 0 0 [] st
       else if x.text=sFalse then opM F.c 1 0 [(opM F.c 0 0 [] st).1] (opM F.c 0 0 [] st).2
       else if Lx.resB (Lx.bs x.text)=true then(v0,failS 30 st)
       else resC from HS.out)
    clear hli
    by_cases hk0:x.kind=0
    ·have d0:(x.kind != 0)=false:=by simp [hk0]
     have d1:(x.kind == 3)=false:=by rw [hk0];rfl
     replace HS:=kp (HS.out.trans (if_neg (fun h=>h hk0)));clear hno hk0 HLn HHd HNth HLi;have HF1:=kp (HFi.out w2 D2.out.keeps);unfold FindPost at HF1
     cases hf:findE env x.text with
     | some v =>
      rw [hf] at HS HF1;replace HS:=kp (show res=(v,st) from HS.out);have HF2:=kp (show Calls Tryz.prog 59 #[.pointer p,.string x.text] w2 fun e w'=>e=.returned (.tuple #[.agg #[.int .i64 v.1,.int .i64 v.2],.bool true])/\Below w2.heap.size w2 w' from HF1.out);have hv:=HVi.out v hf;clear hf HF1 HVi;go_wp2_with fail
      refine HF2.out.mono ?_;rintro e w3 ⟨rfl,hb3⟩;have D3:=kp (D2.out.below hb3);clear hb3 q0 q1 q2 qf;have D4:=kp (D3.out.alloc (.cells #[.int .i64 v.1,.int .i64 v.2] 82));have V4:=kp (Bk.new w3 (.cells #[.int .i64 v.1,.int .i64 v.2] 82));go_upto_region 10 with fail
      generalize w3.alloc (.cells #[.int .i64 v.1,.int .i64 v.2] 82)=w4 at *;obtain ⟨v0',v1',vf⟩:=Bk.c2 V4.out;obtain ⟨r0,r1,rf⟩:=Bk.c2 D4.out.cell;go_wp2_with fail
      rw [HS.out];refine D4.out.ret (v:=v) hF Tryz.results30 ?_ ?_ hv <;> rfl
     | none =>
      rw [hf] at HS HF1
      replace HS:=kp (show res=if x.text=sTrue then opM F.c 0 0 [] st
       else if x.text=sFalse then opM F.c 1 0 [(opM F.c 0 0 [] st).1] (opM F.c 0 0 [] st).2
       else if Lx.resB (Lx.bs x.text)=true then(v0,failS 30 st)
       else resC from HS.out)
      have HF2:=kp (show Calls Tryz.prog 59 #[.pointer p,.string x.text] w2 fun e w'=>e=.returned (.tuple #[.agg #[.int .i64 0,.int .i64 0],.bool false])/\Below w2.heap.size w2 w' from HF1.out);clear hf HF1 HVi;go_wp2_with fail
      refine HF2.out.mono ?_;rintro e w3 ⟨rfl,hb3⟩;have D3:=kp (D2.out.below hb3);have X3:=kp (Bk.on X2.out hb3);clear hb3 q0 q1 q2 qf;have D4:=kp (D3.out.alloc (.cells #[.int .i64 0,.int .i64 0] 82));have X4:=kp (Bk.keep X3.out (.cells #[.int .i64 0,.int .i64 0] 82));go_upto_region 10 with fail
      generalize w3.alloc (.cells #[.int .i64 0,.int .i64 0] 82)=w4 at *;obtain ⟨q0,q1,q2,qf⟩:=Bk.c3 X4.out;have HOp:=kp (op_any hF D4.out.maker 0 0 (I8.of (by decide) (by decide)) v0_VI.1 (L:=none) (l:=[]) 0 (.inl rfl) (by simp))
      by_cases h1:x.text=sTrue
      ·replace HS:=kp (HS.out.trans (if_pos h1));have e1:(x.text.toList == [116,114,117,101])=true:=tl_true h1;rw [← HS.out] at HOp;clear h1;go_wp2_with fail
       refine HOp.out.mono ?_;rintro e w7 ⟨rfl,hv,hk7,A7,c7,hm7,ht7⟩;have D7:=kp (D4.out.call hk7 hm7 ht7);unfold valV;clear hk7 hm7 ht7;obtain ⟨r0,r1,rf⟩:=Bk.c2 D7.out.cell;go_wp2_with fail
       refine D7.out.ret (v:=res.1) hF Tryz.results30 ?_ ?_ hv <;> rfl
      replace HS:=kp (HS.out.trans (if_neg h1));have e1:(x.text.toList == [116,114,117,101])=false:=tl_false h1
      by_cases h2:x.text=sFalse
      ·replace HS:=kp (HS.out.trans (if_pos h2));have e2:(x.text.toList == [102,97,108,115,101])=true:=tl_true h2;clear h1 h2;generalize opM F.c 0 0 [] st=pr at *;obtain ⟨pv,ps⟩:=pr;go_wp2_with fail
       refine HOp.out.mono ?_;rintro e w5 ⟨rfl,hv,hk5,A5,c5,hm5,ht5⟩;have D5:=kp (D4.out.call hk5 hm5 ht5);have VP:=kp hv;unfold valV;clear hv hk5 hm5 ht5 q0 q1 q2 qf;have DB:=kp (D5.out.alloc (.cells #[.int .i64 pv.1,.int .i64 pv.2] 82));have NB:=kp (Bk.new w5 (.cells #[.int .i64 pv.1,.int .i64 pv.2] 82));have HO2:=kp (op_any hF DB.out.maker 1 0 (I8.of (by decide) (by decide)) v0_VI.1 1 (lies_one NB.out VP.out) (by simp));rw [show opM F.c 1 0 [pv] ps=res from HS.out.symm] at HO2;go_wp2_with fail
       refine HO2.out.mono ?_;rintro e w7 ⟨rfl,hv,hk7,A7,c7,hm7,ht7⟩;have D7:=kp (DB.out.call hk7 hm7 ht7);unfold valV;clear hk7 hm7 ht7;obtain ⟨r0,r1,rf⟩:=Bk.c2 D7.out.cell;go_wp2_with fail
       refine D7.out.ret (v:=res.1) hF Tryz.results30 ?_ ?_ hv <;> rfl
      replace HS:=kp (HS.out.trans (if_neg h2));have e2:(x.text.toList == [102,97,108,115,101])=false:=tl_false h2;clear h1 h2
      by_cases h3:Lx.resB (Lx.bs x.text)=true
      ·replace HS:=kp (HS.out.trans (if_pos h3));rw [h3] at HRs;clear h3;have D2:=D4;go_wp2_with fail
       refine(HRs.out _).mono ?_;rintro e w' ⟨rfl,rfl⟩;have HFl:=kp (fail_any hF D2.out.maker 30 (by decide));go_wp2_with fail
       refine HFl.out.mono ?_;rintro e w7 ⟨rfl,hv,hk7,A7,c7,hm7,ht7⟩;have D7:=kp (D2.out.call hk7 hm7 ht7);unfold valV v0;clear hk7 hm7 ht7;obtain ⟨r0,r1,rf⟩:=Bk.c2 D7.out.cell;go_wp2_with fail
       rw [HS.out];refine D7.out.ret (v:=v0) hF Tryz.results30 ?_ ?_ v0_VI <;> rfl
      ·replace HS:=kp (HS.out.trans (if_neg h3));rw [eq_false_of_ne_true h3] at HRs;clear h3;have HC:=kp (HCa.out _ _ _ D4.out);rw [← HS.out] at HC;go_wp2_with fail
       refine(HRs.out _).mono ?_;rintro e w' ⟨rfl,rfl⟩;go_wp2_with fail
       refine HC.out.mono ?_;rintro e w7 ⟨rfl,hv,hk7,A7,c7,hm7,ht7⟩;have D7:=kp (D4.out.call hk7 hm7 ht7);unfold valV;clear hk7 hm7 ht7;obtain ⟨r0,r1,rf⟩:=Bk.c2 D7.out.cell;go_wp2_with fail
       refine D7.out.ret (v:=res.1) hF Tryz.results30 ?_ ?_ hv <;> rfl
    ·have d0:(x.kind != 0)=true:=by rw [bne_iff_ne];exact hk0
     replace HS:=kp (HS.out.trans (if_pos hk0));clear hk0
     by_cases hk3:x.kind=3
     ·have d1:(x.kind == 3)=true:=by simp [hk3]
      by_cases hp0:0 < x.l.length
      ·have d2:(0:Int) < (x.l.length:Int):=by omega
       obtain ⟨b,o,A0,c0,rfl,_,hc0⟩:=HNth.out hp0;obtain ⟨z0,_,_⟩:=hc0 w2 D2.out.maker.below;rw [Nat.zero_mul,Nat.add_zero] at z0;have d3:((nthX x 0).kind == 0)=false:=by rw [beq_eq_false_iff_ne];exact fun h=>hno ⟨hk3,hp0,h⟩
       clear hno hk3 hp0 hc0;generalize (nthX x 0).kind=zk at *;have HFl:=kp (fail_any hF D2.out.maker 30 (by decide));go_wp2_with fail
       refine HFl.out.mono ?_;rintro e w7 ⟨rfl,hv,hk7,A7,c7,hm7,ht7⟩;have D7:=kp (D2.out.call hk7 hm7 ht7);unfold valV v0;clear hk7 hm7 ht7;obtain ⟨r0,r1,rf⟩:=Bk.c2 D7.out.cell;go_wp2_with fail
       rw [HS.out];refine D7.out.ret (v:=v0) hF Tryz.results30 ?_ ?_ v0_VI <;> rfl
      ·have d2:decide ((0:Int) < (x.l.length:Int))=false:=dfq (by omega);have d3:¬ 0 < x.l.length:=hp0;clear hno hk3 hp0;have HFl:=kp (fail_any hF D2.out.maker 30 (by decide));go_wp2_with fail
       refine HFl.out.mono ?_;rintro e w7 ⟨rfl,hv,hk7,A7,c7,hm7,ht7⟩;have D7:=kp (D2.out.call hk7 hm7 ht7);unfold valV v0;clear hk7 hm7 ht7;obtain ⟨r0,r1,rf⟩:=Bk.c2 D7.out.cell;go_wp2_with fail
       rw [HS.out];refine D7.out.ret (v:=v0) hF Tryz.results30 ?_ ?_ v0_VI <;> rfl
     ·have d1:(x.kind == 3)=false:=by simp [hk3]
      clear hno hk3;have HFl:=kp (fail_any hF D2.out.maker 30 (by decide));go_wp2_with fail
      refine HFl.out.mono ?_;rintro e w7 ⟨rfl,hv,hk7,A7,c7,hm7,ht7⟩;have D7:=kp (D2.out.call hk7 hm7 ht7);unfold valV v0;clear hk7 hm7 ht7;obtain ⟨r0,r1,rf⟩:=Bk.c2 D7.out.cell;go_wp2_with fail
      rw [HS.out];refine D7.out.ret (v:=v0) hF Tryz.results30 ?_ ?_ v0_VI <;> rfl
 ·have he1:(st.e != 0)=true:=by rw [bne_iff_ne];exact he
  replace HS:=kp (HS.out.trans (if_pos he));obtain ⟨r0,r1,rf⟩:=Bk.c2 D1.out.cell;clear he;go_wp2_with fail
  rw [HS.out];refine D1.out.ret (v:=v0) hF Tryz.results30 ?_ ?_ v0_VI <;> rfl
theorem term_any {F:Fix} (hF:FixOk F) (hM:∀ m ∈ F.c.g.macros,m.body.full<=3000000):∀ (n known:Nat) (x:Sexp),need F.c.g known x < n->x.full<=3000000->TermC F known x
 | 0,_,_,h,_=>by omega
 | n+1,known,x,h,hx=>by
  refine term_step hF (fun y hy=>?_) (fun k m hm hk=>?_) hx
  ·exact term_any hF hM n known y (by unfold need at *;omega) (by omega)
  ·exact term_any hF hM n k m.body (by have:=sumB_lt hm hk;unfold need at *;omega) (hM m (mgq hm))
def pairV (q:Param):ByteArray × V:=(q.name,(q.sort,(0:Int)))
theorem envOf_eq (vars:List Param):envOf vars=(vars.map pairV).reverse:=rfl
theorem par_sort {W0:World} {A:Option Addr} {l:List Param} (h:Lies 2 ParamR W0 A l) {q:Param} (hq:q ∈ l):I64 q.sort:=by
 obtain ⟨k,hk⟩:=List.getElem?_of_mem hq;obtain ⟨_,_,_,_,_,_,_,_,_,hs⟩:=h.at' hk;exact hs
theorem Mk.made {F:Fix} {W:World} {known:Int} {t:List Node} {At:Option Addr} {ct:Nat} (hmb:F.mb=W.heap.size) (hb:Below F.W0.heap.size F.W0 W) (ht:Lies 8 NodeR W At t) (hle:t.length<=ct) (hlm:ct<=maxLen) (hlen:t.length<=1000000) :
  Mk F (W.alloc (.cells #[.slice F.A1 F.c.g.sorts.length F.c1,.slice F.A2 F.c.g.funs.length F.c2,.slice F.A3 F.c.g.macros.length F.c3,.slice At t.length ct,.int .i64 F.c.most,.bool F.c.build,.int .i64 known,.int .i64 0,.int .i64 0] 80)) known (st0 t) At ct:=by
 refine⟨by rw [hmb];exact Bk.new W _,hle,hlm,hlen,ht.on NodeR.lasts ((Below.refl _ _).alloc nlq _),fun hn b o e=>?_,⟨by show(0:Int)<=0;omega,by show(0:Int)<=301;omega,fun _=>by show(0:Int)<=300;omega⟩,hb.alloc hb.size _⟩;have:=lies_lt ht hn b o e
 omega
theorem sort_any {w:World} {A1 A2 A3:Option Addr} {c1 c2 c3:Nat} {g:Sig} (h:SigAt w A1 c1 A2 c2 A3 c3 g) (hl1:g.sorts.length<=1000000) (hl2:g.funs.length<=1000000) (hl3:g.macros.length<=1000000) (hM:∀ m ∈ g.macros,m.body.full<=3000000) {Av:Option Addr} {vars:List Param} (cv:Nat) (hv:Lies 2 ParamR w Av vars) (hvl:vars.length<=1000000) {A:Option Addr} {c:Nat} {x:Sexp} (hx:XAt w A c x) (hfx:x.full<=3000000) :
  Calls Tryz.prog 29 #[.agg #[.slice A1 g.sorts.length c1,.slice A2 g.funs.length c2,.slice A3 g.macros.length c3],.slice Av vars.length cv,.agg #[.int .i8 x.kind,.string x.text,.slice A x.l.length c]] w fun e w'=>e=.returned (.tuple #[.int .i64 (sortO g (envOf vars) x).1,.int .i64 (sortO g (envOf vars) x).2])/\Below w.heap.size w w':=by
 have HO:=kp (show sortO g (envOf vars) x=if checkE g≠0\/x.may=false then(0,2) else if(sortP g (envOf vars) x).2.e=0 then((sortP g (envOf vars) x).1.1,0) else(0,(sortP g (envOf vars) x).2.e) from rfl);have HSg:=kp h;have HX:=kp hx;have HV:=kp hv;have HMf:=kp hM;have HFx:=kp hfx;have B2:=kp ((((brq w).alloc nlq (.cells #[.slice A1 g.sorts.length c1,.slice A2 g.funs.length c2,.slice A3 g.macros.length c3] 26)).alloc (by simp) (.cells #[.int .i8 x.kind,.string x.text,.slice A x.l.length c] 40)));have S2:=kp (Bk.keep (Bk.new w (.cells #[.slice A1 g.sorts.length c1,.slice A2 g.funs.length c2,.slice A3 g.macros.length c3] 26)) (.cells #[.int .i8 x.kind,.string x.text,.slice A x.l.length c] 40));have X2:=kp (show((w.alloc (.cells #[.slice A1 g.sorts.length c1,.slice A2 g.funs.length c2,.slice A3 g.macros.length c3] 26)).alloc (.cells #[.int .i8 x.kind,.string x.text,.slice A x.l.length c] 40)).heap[w.heap.size+1]?=some (.cells #[.int .i8 x.kind,.string x.text,.slice A x.l.length c] 40 (0,0)) by have h:=Bk.new (w.alloc (.cells #[.slice A1 g.sorts.length c1,.slice A2 g.funs.length c2,.slice A3 g.macros.length c3] 26)) (.cells #[.int .i8 x.kind,.string x.text,.slice A x.l.length c] 40);simpa using h);have HChk:=kp (fun W (hW:Below w.heap.size w W)=>check_any (h.on hW) (by omega) (by omega) (by omega));have HMay:=kp (fun W (hW:Below w.heap.size w W)=>sxmay_any (hx.on hW));clear h hx hv hM hfx;generalize hso:sortO g (envOf vars) x=so at *
 clear hso
 go_enter Tryz.func29,Tryz.ntmps29
 go_upto_region 1 with fail
 generalize (w.alloc (.cells #[.slice A1 g.sorts.length c1,.slice A2 g.funs.length c2,.slice A3 g.macros.length c3] 26)).alloc (.cells #[.int .i8 x.kind,.string x.text,.slice A x.l.length c] 40)=w2 at *;obtain ⟨s0,s1,s2,sf⟩:=Bk.c3 S2.out;have HC:=kp (HChk.out w2 B2.out)
 by_cases hck:checkE g=0
 ·have HCk:=kp hck;rw [hck] at HC;clear hck;go_wp2_with fail
  refine HC.out.mono ?_;rintro e w3 ⟨rfl,hb3⟩;have B3:=kp (B2.out.trans (hb3.mono B2.out.size));have S3:=kp (Bk.on S2.out hb3);have X3:=kp (Bk.on X2.out hb3);clear hb3 s0 s1 s2 sf;obtain ⟨q0,q1,q2,qf⟩:=Bk.c3 X3.out;have HY:=kp (HMay.out w3 B3.out)
  cases hmy:x.may with
  | false =>
   rw [hmy] at HY;replace HO:=kp (show so=(0,2) by rw [HO.out,if_pos (.inr hmy)]);go_wp2_with fail
   refine HY.out.mono ?_;rintro e w4 ⟨rfl,hb4⟩;have B4:=kp (B3.out.trans (hb4.mono B3.out.size));clear hb4;go_wp2_with fail
   go_ret2;exact⟨by rw [HO.out];rfl,B4.out⟩
  | true =>
   rw [hmy] at HY;replace HO:=kp (show so=if(sortP g (envOf vars) x).2.e=0 then((sortP g (envOf vars) x).1.1,0) else(0,(sortP g (envOf vars) x).2.e) by rw [HO.out,if_neg (fun h=>by rcases h with h | h;exact h HCk.out;rw [h] at hmy;cases hmy)]);clear hmy;have hmm:=@run_makeMap Tryz.prog;go_wp2_with fail
   refine HY.out.mono ?_;rintro e w4 ⟨rfl,hb4⟩;have B4:=kp (B3.out.trans (hb4.mono B3.out.size));have S4:=kp (Bk.on S3.out hb4);have X4:=kp (Bk.on X3.out hb4);clear hb4 q0 q1 q2 qf S2 S3 X2 X3 B2 B3;have M5:=kp (KeyMap.below (KeyMap.made (kt:=9) (key:=strKV) w4) ((Below.refl _ _).alloc nlq (.cells #[.pointer none,.map (some w4.heap.size)] 117)));have B5:=kp ((B4.out.alloc B4.out.size (.map #[] 0)).alloc (B4.out.alloc B4.out.size (.map #[] 0)).size (.cells #[.pointer none,.map (some w4.heap.size)] 117));have C5:=kp (show((w4.alloc (.map #[] 0)).alloc (.cells #[.pointer none,.map (some w4.heap.size)] 117)).heap[w4.heap.size+1]?=some (.cells #[.pointer none,.map (some w4.heap.size)] 117 (0,0)) by have h:=Bk.new (w4.alloc (.map #[] 0)) (.cells #[.pointer none,.map (some w4.heap.size)] 117);simpa using h);have S5:=kp (Bk.keep (Bk.keep S4.out (.map #[] 0)) (.cells #[.pointer none,.map (some w4.heap.size)] 117));have X5:=kp (Bk.keep (Bk.keep X4.out (.map #[] 0)) (.cells #[.pointer none,.map (some w4.heap.size)] 117));have hms:=lt_of_block S4.out;have hmx:=lt_of_block X4.out;go_upto_region 4 with fail
   generalize (w4.alloc (.map #[] 0)).alloc (.cells #[.pointer none,.map (some w4.heap.size)] 117)=w5 at *;generalize w4.heap.size=mpb at *;clear hmm;go_wp2_with fail
   go_loopw [26] (fun i' wr=>∃ k:Nat,k<=vars.length/\i'=.int .i64 k/\Below w.heap.size w wr/\wr.heap[mpb+1]?=some (.cells #[.pointer none,.map (some mpb)] 117 (0,0))/\wr.heap[w.heap.size]?=some (.cells #[.slice A1 g.sorts.length c1,.slice A2 g.funs.length c2,.slice A3 g.macros.length c3] 26 (0,0))/\wr.heap[w.heap.size+1]?=some (.cells #[.int .i8 x.kind,.string x.text,.slice A x.l.length c] 40 (0,0))/\KeyMap 9 strKV wr mpb k (fun s=>(findE ((vars.take k).map pairV).reverse s).map valV)) (fun i' _=>vars.length - (intOf i').toNat)
   case atStart=>exact⟨0,Nat.zero_le _,rfl,B5.out,C5.out,S5.out,X5.out,KeyMap.congr M5.out (fun s=>by simp [findE])⟩
   case round =>
    obtain ⟨k,hk,rfl,hb,hc,hs,hx,hkm⟩:=hrel;have BR:=kp hb;have CR:=kp hc;have SR:=kp hs;have XR:=kp hx;have KM:=kp hkm;clear hb hc hs hx hkm
    by_cases hkl:k < vars.length
    ·have hlt2:(k:Int) < (vars.length:Int):=by omega
     obtain ⟨q,hq⟩:∃ q,vars[k]?=some q:=⟨_,gqe hkl⟩;obtain ⟨pb,po,rfl,hqn,hqc⟩:=par_get HV.out hq;obtain ⟨p0,p1⟩:=hqc wr BR.out;have HTk:=kp (show((vars.take (k+1)).map pairV).reverse=pairV q :: ((vars.take k).map pairV).reverse by rw [List.take_add_one,hq];simp);have CA:=kp (Bk.keep CR.out (.cells #[.string q.name,.int .i64 q.sort] 119));have SA:=kp (Bk.keep SR.out (.cells #[.string q.name,.int .i64 q.sort] 119));have XA:=kp (Bk.keep XR.out (.cells #[.string q.name,.int .i64 q.sort] 119));have QA:=kp (Bk.new wr (.cells #[.string q.name,.int .i64 q.sort] 119));have BA:=kp (BR.out.alloc BR.out.size (.cells #[.string q.name,.int .i64 q.sort] 119));have KA:=kp (KeyMap.below KM.out ((brq wr).alloc nlq (.cells #[.string q.name,.int .i64 q.sort] 119)));have hqm:wr.heap.size≠mpb:=Nat.ne_of_gt KM.out.lt;clear hq hqc;go_upto_region 7 with fail
     generalize wr.alloc (.cells #[.string q.name,.int .i64 q.sort] 119)=wa at *;generalize wr.heap.size=qb at *;clear p0 p1;have B0:=kp (brq wa).drew;have CD:=kp (Bk.on CA.out B0.out);have SD:=kp (Bk.on SA.out B0.out);have XD:=kp (Bk.on XA.out B0.out);have QD:=kp (Bk.on QA.out B0.out);have BD:=kp (BA.out.trans (B0.out.mono BA.out.size));have KD:=kp (KeyMap.below KA.out B0.out);generalize hwd:wa.drew=wd at *;obtain ⟨v8,u8,m8,g8⟩:=KeyMap.store (a:=q.name) (t:=115) (e:=82) KD.out string_key str_inj Tryz.underlying115 (by unfold maxLen;omega) (keyOf_str hqn) (valV (q.sort,0));unfold valV at u8;replace u8:(Instr.mapUpdate 115 (.map (some mpb)) (.string q.name) (.agg #[.int .i64 q.sort,.int .i64 0])).run Tryz.prog wd=.ok () v8:=u8;have K8:=kp (show Keeps (fun k=>k=mpb) wd v8 from(Keeps.refl _ wd).grown g8 (fun j hj=>.inl (Option.some.inj hj).symm));have HC6:=kp (fun W (hW:Keeps (fun k=>k=mpb) wd W)=>(hW.block (mpb+1) (lt_of_block CD.out) (by omega)).trans CD.out);have HQ6:=kp (fun W (hW:Keeps (fun k=>k=mpb) wd W)=>(hW.block qb (lt_of_block QD.out) hqm).trans QD.out);refine wp_region_held_drew (S:=fun W=>Keeps (fun k=>k=mpb) wd W) (by kernel_rfl) ((by rw [hwd];exact Keeps.refl _ _)) (fun hHeld=>?_);refine plz [0,1,2,3,4,5,6,7,8] ?_;iterate 9 (refine tnz (v:=?_) ?_ ?_;rotate_left;(focus first | ((intro w hSw;go_simp;try with_reducible rfl);done) | ((intro w hSw;(obtain ⟨n0,n1,nf⟩:=Bk.c2 (HC6.out _ hSw);go_simp;try with_reducible rfl));done) | ((intro w hSw;(obtain ⟨n0,n1,nf⟩:=Bk.c2 (HQ6.out _ hSw);go_simp;try with_reducible rfl));done));try simp only [pt])
     refine pzz ?_;rw [hwd];refine rd 9 fun K hK=>?_;go_simp;refine hK.out _ _ (K8.out) (fun hHeld=>?_);clear hK K;try simp only [pt]
     refine dnz ?_;have B8:=kp (BD.out.trans (K8.out.below (B:=w.heap.size) (fun k e=>by omega) BD.out.size));have C8:=kp (HC6.out _ K8.out);have S8:=kp ((K8.out.block w.heap.size (lt_of_block SD.out) (by omega)).trans SD.out);have X8:=kp ((K8.out.block (w.heap.size+1) (lt_of_block XD.out) (by omega)).trans XD.out);have M8:=kp (KeyMap.congr (H:=fun s=>(findE ((vars.take (k+1)).map pairV).reverse s).map valV) m8 (fun s=>by rw [HTk.out];exact(findE_cons _ _ _ _).symm));clear m8 g8;go_wp2_with fail
     go_roundw
     case rel=>exact⟨k+1,by omega,by go_num,B8.out,C8.out,S8.out,X8.out,M8.out⟩
     case measure=>simp [intOf];omega
    ·obtain rfl:k=vars.length:=by omega
     have KZ:=kp (KeyMap.congr (H:=fun s=>(findE (envOf vars) s).map valV) KM.out (fun s=>by rw [List.take_length];rfl));have hms2:=KZ.out.lt;have hmz:=lt_of_block CR.out;have C6:=kp (Bk.keep CR.out (.cells #[.slice A1 g.sorts.length c1,.slice A2 g.funs.length c2,.slice A3 g.macros.length c3,.slice none 0 0,.int .i64 0,.bool false,.int .i64 (g.macros.length:Int),.int .i64 0,.int .i64 0] 80));have X6:=kp (Bk.keep XR.out (.cells #[.slice A1 g.sorts.length c1,.slice A2 g.funs.length c2,.slice A3 g.macros.length c3,.slice none 0 0,.int .i64 0,.bool false,.int .i64 (g.macros.length:Int),.int .i64 0,.int .i64 0] 80));have B6:=kp (BR.out.alloc BR.out.size (.cells #[.slice A1 g.sorts.length c1,.slice A2 g.funs.length c2,.slice A3 g.macros.length c3,.slice none 0 0,.int .i64 0,.bool false,.int .i64 (g.macros.length:Int),.int .i64 0,.int .i64 0] 80));obtain ⟨F,hFe⟩:∃ F:Fix,F=⟨w,wr.heap.size,A1,c1,A2,c2,A3,c3,⟨g,0,false⟩⟩:=⟨_,rfl⟩
     have hFk:FixOk F:=by
      subst hFe;exact⟨HSg.out,HCk.out,BR.out.size,by show(0:Int)<=1000000;omega,v0_VI.1⟩
     have hFm:F.mb=wr.heap.size:=by rw [hFe]
     have HC:=kp (show Calls Tryz.prog 30 #[.pointer (some ⟨wr.heap.size,0,none⟩),.agg #[.int .i8 x.kind,.string x.text,.slice A x.l.length c],.pointer (some ⟨mpb+1,0,none⟩)] (wr.alloc (.cells #[.slice A1 g.sorts.length c1,.slice A2 g.funs.length c2,.slice A3 g.macros.length c3,.slice none 0 0,.int .i64 0,.bool false,.int .i64 (g.macros.length:Int),.int .i64 0,.int .i64 0] 80)) (MkPost F (g.macros.length:Nat) (wr.alloc (.cells #[.slice A1 g.sorts.length c1,.slice A2 g.funs.length c2,.slice A3 g.macros.length c3,.slice none 0 0,.int .i64 0,.bool false,.int .i64 (g.macros.length:Int),.int .i64 0,.int .i64 0] 80)) [] none (sortP g (envOf vars) x).1 (sortP g (envOf vars) x).2) by
      subst hFe;have hm:=Mk.made (F:=⟨w,wr.heap.size,A1,c1,A2,c2,A3,c3,⟨g,0,false⟩⟩) (W:=wr) (known:=(g.macros.length:Int)) (t:=[]) (At:=none) (ct:=0) rfl BR.out (.inl rfl) nlq (by unfold maxLen;omega) (by simp)
      have hen:=(EnvS.nil ⟨w,wr.heap.size,A1,c1,A2,c2,A3,c3,⟨g,0,false⟩⟩ (wr.alloc (.cells #[.slice A1 g.sorts.length c1,.slice A2 g.funs.length c2,.slice A3 g.macros.length c3,.slice none 0 0,.int .i64 0,.bool false,.int .i64 (g.macros.length:Int),.int .i64 0,.int .i64 0] 80))).cons C6.out (KeyMap.below KZ.out ((brq wr).alloc nlq _)) (fun q hq=>by
       rw [envOf_eq,List.mem_reverse,List.mem_map] at hq;obtain ⟨u,hu,rfl⟩:=hq;exact⟨par_sort HV.out hu,v0_VI.1⟩) (by show mpb+1≠wr.heap.size;omega) (by show mpb≠wr.heap.size;omega)
      rw [List.append_nil] at hen;exact term_any hFk HMf.out _ g.macros.length x (Nat.lt_succ_self _) HFx.out hm HX.out hen)
     generalize sortP g (envOf vars) x=pr at *;obtain ⟨pv,ps⟩:=pr;clear hFe C6 CR KZ KM HV HMf;obtain ⟨s0,s1,s2,sf⟩:=Bk.c3 SR.out;go_upto_region 10 with fail
     generalize wr.alloc (.cells #[.slice A1 g.sorts.length c1,.slice A2 g.funs.length c2,.slice A3 g.macros.length c3,.slice none 0 0,.int .i64 0,.bool false,.int .i64 (g.macros.length:Int),.int .i64 0,.int .i64 0] 80)=w6 at *;generalize wr.heap.size=mb at *;clear s0 s1 s2 sf;obtain ⟨q0,q1,q2,qf⟩:=Bk.c3 X6.out;go_wp2_with fail
     refine HC.out.mono ?_;rintro e w7 ⟨rfl,hv,hk7,A7,c7,hm7,ht7⟩;have B7:=kp (show Below w.heap.size w w7 from B6.out.trans (hk7.below (fun k hk=>by unfold onMb at hk;have:=BR.out.size;omega) B6.out.size));have hb7:=hm7.blk;rw [hFm] at hb7;have MB8:=kp (Bk.keep hb7 (.cells #[.int .i64 pv.1,.int .i64 pv.2] 82));have V8:=kp (Bk.new w7 (.cells #[.int .i64 pv.1,.int .i64 pv.2] 82));have B8:=kp (B7.out.alloc B7.out.size (.cells #[.int .i64 pv.1,.int .i64 pv.2] 82));unfold valV;clear hv hk7 hm7 ht7 hb7 q0 q1 q2 qf;go_upto_region 11 with fail
     generalize w7.alloc (.cells #[.int .i64 pv.1,.int .i64 pv.2] 82)=w8 at *;generalize w7.heap.size=vb at *;obtain ⟨m0,m1,m2,m3,m4,m5,m6,m7,m8,mf⟩:=Bk.c9 MB8.out;obtain ⟨y0,y1,yf⟩:=Bk.c2 V8.out
     by_cases he:ps.e=0
     ·have he1:(ps.e == 0)=true:=by simp [he]
      replace HO:=kp (show so=(pv.1,0) by rw [HO.out,if_pos he]);clear he;go_wp2_with fail
      go_ret2;exact⟨by rw [HO.out];rfl,B8.out⟩
     ·have he1:(ps.e == 0)=false:=by simp [he]
      replace HO:=kp (show so=(0,ps.e) by rw [HO.out,if_neg he]);clear he;go_upto_region 13 with fail
      have B0:=kp (brq w8).drew;refine wp_region_held_drew (S:=fun W=>Below w8.heap.size w8 W) (by kernel_rfl) (B0.out) (fun hHeld=>?_);refine plz [0,1,2,3,4,5] ?_;iterate 6 (refine tnz (v:=?_) ?_ ?_;rotate_left;(focus first | ((intro w hSw;go_simp;try with_reducible rfl);done) | ((intro w hSw;(obtain ⟨m0,m1,m2,m3,m4,m5,m6,m7,m8,mf⟩:=Bk.c9 (Bk.on MB8.out hSw);go_simp;try with_reducible rfl));done));try simp only [pt])
      refine pzz ?_;refine dnz ?_;go_wp2_with fail
      go_ret2;exact⟨by rw [HO.out];rfl,B8.out.trans (B0.out.mono B8.out.size)⟩
 ·have hck':(checkE g != 0)=true:=by rw [bne_iff_ne];exact hck
  replace HO:=kp (show so=(0,2) by rw [HO.out,if_pos (.inl hck)]);clear hck;go_wp2_with fail
  refine HC.out.mono ?_;rintro e w3 ⟨rfl,hb3⟩;have B3:=kp (B2.out.trans (hb3.mono B2.out.size));clear hb3;go_wp2_with fail
  go_ret2;exact⟨by rw [HO.out];rfl,B3.out⟩
end El
end Go.Proofs.YtpmdcckapddchaaGreatDoor
