import Derived.Test.YtpmdcckapddchaaGreatShort
import Derived.Test.YtpmdcckapddchaaGreatMzk
import Derived.Test.YtpmdcckapddchaaGreatMzh
import Derived.Test.YtpmdcckapddchaaGreatMzi
import Derived.Test.YtpmdcckapddchaaGreatMd
import Derived.Test.YtpmdcckapddchaaGreatMk
import Derived.Test.YtpmdcckapddchaaGreatMzj
import Derived.Test.YtpmdcckapddchaaGreatMb
import Derived.Test.YtpmdcckapddchaaGreatMh
import Derived.Test.YtpmdcckapddchaaGreatRows
/- merged by wip/merge.py from: Rd16 Rd17 Law7FitsL ElabFitsCard -/
set_option maxRecDepth 100000
set_option maxHeartbeats 51200000
namespace Go.Proofs.YtpmdcckapddchaaGreat
namespace El
open Go.RowKit Dt Sg
theorem rterm_step {F:RFix} (hF:RFixOk F) {x:Sexp} (hT:∀ y:Sexp,y.full < x.full->RTermC F y) (hfx:x.full<=1500000):RTermC F x:=by
 intro w st A c Av cv vs env hm hx hv hvl he;rw [termP_eq];have HX:=kp hx;have B1:=kp ((brq w).alloc nlq (.cells #[.int .i8 x.kind,.string x.text,.slice A x.l.length c] 30));have Z1:=kp (show(w.alloc (.cells #[.int .i8 x.kind,.string x.text,.slice A x.l.length c] 30)).heap.size=w.heap.size+1 by simp);have D1:=kp (RMid.newOn hm B1.out);have X1:=kp (Bk.keep (Bk.new w (.cells #[.int .i8 x.kind,.string x.text,.slice A x.l.length c] 30)) (.cells #[.string { data:=#[] },.int .i64 0,.int .i64 0] 94));rw [Z1.out] at D1;have hln:=len_full x;have hx10:(x.l.length:Int)<=1500000:=by omega
 have HXo:=kp hx.opens;have htl:x.l.tail.length=x.l.length - 1:=by simp
 have HCore:=kp (fun(W:World) (h0:0 < (argcN (headS x)).1) (h:RMid F w (w.heap.size+1) W st.e)=>rcore_any hF hT hfx h0 h.rd hx cv (hv.on h.keeps) hvl he);have HLet:=kp (fun(W:World) (h:RMid F w (w.heap.size+1) W st.e)=>rlet_any hF hT h.rd hx cv (hv.on h.keeps) hvl he);have HCal:=kp (fun(W:World) (L:Option Addr) (hL:Lies 3 SexpR F.W0 L x.l.tail) (cl:Nat) (h:RMid F w (w.heap.size+1) W st.e)=>rcall_any hF (fun y hy=>hT y (full_mem (List.mem_of_mem_tail hy))) h.rd (headS x) cl hL (by omega) cv (hv.on h.keeps) (fun y hy=>by have:=full_mem (List.mem_of_mem_tail hy);omega) he);have HNam:=kp (fun(W:World) (h0:st.e=0) (h:RMid F w (w.heap.size+1) W st.e)=>rname_any hF h.rd x.text cv (hv.on h.keeps) (by omega) (he h0));have HNum:=kp (fun(W:World) (h:RMid F w (w.heap.size+1) W st.e)=>rnumeral_any hF h.rd hx);have HRs:=kp (Lx.rreserved_any (headS x));have HCo:=kp (rcounts_any (headS x));have HIs:=kp (fun W (hW:Below F.W0.heap.size F.W0 W)=>ris_any (hx.on hW));have HTl:=kp (show x.l.tail=x.l.drop 1 by rw [List.drop_one]);have HTn:=kp (show x.l.tail.length=x.l.length - 1 by simp);have HLc:=kp (fun h1 h2 h3=>list_core (F:=F) (known:=F.g.macros.length) (x:=x) (env:=env) (st:=st) h1 h2 h3)
 have HS:=kp (show termStep (cxR F) (termP (cxR F)) F.g.macros.length x env st=if st.e≠0 then(v0,st)
  else if isNumX x then opM (cxR F) 10 (numberM (cxR F) x st).1 [] (numberM (cxR F) x st).2
  else if isListB x then listM (cxR F) (termP (cxR F)) F.g.macros.length x env st
  else if x.kind≠0 then(v0,failS 30 st)
  else nameR F x.text env st from rfl)
 have HLn:=kp (fun h=>isList_not (x:=x) h);have HHd:=kp (fun h=>head_nth (x:=x) h)
 have HLl:=kp (show listM (cxR F) (termP (cxR F)) F.g.macros.length x env st=if headS x=sLet then letM (termP (cxR F)) F.g.macros.length x env st
  else if Lx.resB (Lx.bs (headS x))=true\/headS x=sTrue\/headS x=sFalse then(v0,failS 30 st)
  else listM (cxR F) (termP (cxR F)) F.g.macros.length x env st by
   unfold listM
   split
   ·rfl
   ·split <;> rfl)
 clear hm hT hx hv hvl he hln hfx htl;generalize termStep (cxR F) (termP (cxR F)) F.g.macros.length x env st=res at *;generalize letM (termP (cxR F)) F.g.macros.length x env st=resL at *;generalize callM (cxR F) (termP (cxR F)) F.g.macros.length (headS x) x.l.tail env st=resC at *;generalize coreR F (fun y=>termP (cxR F) F.g.macros.length y env) (headS x) x st=resK at *;generalize nameR F x.text env st=resN at *;generalize listM (cxR F) (termP (cxR F)) F.g.macros.length x env st=resA at *
 go_enter Tryz.func53,Tryz.ntmps53
 go_upto_region 1 with fail
 generalize (w.alloc (.cells #[.int .i8 x.kind,.string x.text,.slice A x.l.length c] 30)).alloc (.cells #[.string { data:=#[] },.int .i64 0,.int .i64 0] 94)=w1 at *;obtain ⟨q0,q1,q2,qf⟩:=Bk.c3 X1.out;obtain ⟨m0,m1,m2,m3,m4,m5,m6,m7,m8,mf⟩:=Bk.c9 D1.out.rd.blk
 by_cases he:st.e=0
 ·have he1:(st.e != 0)=false:=by simp [he]
  replace HS:=kp (HS.out.trans (if_neg (by simp [he])));have HE0:=kp he;have HN:=kp (HIs.out _ D1.out.rd.below);clear he
  cases hn:isNumX x with
  | true =>
   rw [hn] at HN HS
   replace HS:=kp (show res=opM (cxR F) 10 0 [] st by
    have h:res=opM (cxR F) 10 (numberM (cxR F) x st).1 [] (numberM (cxR F) x st).2:=HS.out;rw [h,numberR];exact opR_n _ _ _ _ _)
   generalize opM (cxR F) 10 0 [] st=q at *;clear hn;go_wp2_with fail
   refine HN.out.mono ?_;rintro e w2 ⟨rfl,hb2⟩;have D2:=kp (D1.out.below hb2);have X2:=kp (Bk.on X1.out hb2);clear hb2 q0 q1 q2 qf m0 m1 m2 m3 m4 m5 m6 m7 m8 mf;obtain ⟨q0,q1,q2,qf⟩:=Bk.c3 X2.out;have HC:=kp (HNum.out _ D2.out);go_wp2_with fail
   refine HC.out.mono ?_;rintro e w7 ⟨nm7,s7,rfl,hv7,hk7,hm7⟩;have D7:=kp (D2.out.call hk7 hm7);clear hk7 hm7;obtain ⟨r0,r1,r2,rf⟩:=Bk.c3 D7.out.cell;go_wp2_with fail
   rw [HS.out];refine RMid.ret hF (q:=q) D7.out Tryz.results53 ?_ ?_ hv7 <;> rfl
  | false =>
   rw [hn] at HN HS;replace HS:=kp (show res=if isListB x then resA else if x.kind≠0 then(v0,failS 30 st) else resN from HS.out);clear hn;go_wp2_with fail
   refine HN.out.mono ?_;rintro e w2 ⟨rfl,hb2⟩;have D2:=kp (D1.out.below hb2);have X2:=kp (Bk.on X1.out hb2);clear hb2 q0 q1 q2 qf m0 m1 m2 m3 m4 m5 m6 m7 m8 mf HN;obtain ⟨q0,q1,q2,qf⟩:=Bk.c3 X2.out;have HNth:=kp (fun(hp:0 < x.l.length)=>nth_xs HX.out (i:=0) hp)
   cases hli:isListB x with
   | true =>
    rw [hli] at HS;replace HS:=kp (show res=resA from HS.out);obtain ⟨hhd,hk3,hp0⟩:=HHd.out hli;have d0:(x.kind == 0)=false:=by rw [hk3];rfl
    have d1:(x.kind != 3)=false:=by simp [hk3]
    have d2:(0:Int) < (x.l.length:Int):=by omega
    have d4:((x.l.length:Int) == 0)=false:=by rw [beq_eq_false_iff_ne];omega
    obtain ⟨b,o,A0,c0,rfl,_,hc0⟩:=HNth.out hp0;obtain ⟨z0,z1,_⟩:=hc0 w2 D2.out.rd.below;rw [Nat.zero_mul,Nat.add_zero] at z0 z1;rw [← hhd] at z1
    have d3:((nthX x 0).kind != 0)=false:=by
     have:=hli;unfold isListB at this;unfold nthX
     cases hl:x.l with
     | nil=>rw [hl] at hp0;simp at hp0
     | cons y r=>rw [hl] at this;simp only [Bool.and_eq_true,decide_eq_true_eq] at this;simp [this.2]
    have HNe:=kp (show x.l≠[] from List.length_pos_iff.1 hp0);clear hli hk3 hp0 hc0 hhd HHd HNth HLn HNum HNam;generalize (nthX x 0).kind=zk at *;generalize headS x=s at *;generalize argcN s=lh at *;obtain ⟨lo,hi⟩:=lh;replace HCo:=kp (show ∀ W,Calls Tryz.prog 91 #[.string s] W fun e w'=>e=.returned (.tuple #[.int .i64 lo,.int .i64 hi])/\W=w' from HCo.out);go_wp2_with fail
    refine(HCo.out _).mono ?_;rintro e w' ⟨rfl,rfl⟩
    by_cases h1:s=sLet
    ·replace HS:=kp (HS.out.trans (HLl.out.trans (if_pos h1)));have e1:(s.toList == [108,101,116])=true:=tl_true h1;have HC:=kp (HLet.out _ D2.out);clear h1;go_wp2_with fail
     refine HC.out.mono ?_;rintro e w7 ⟨nm7,s7,rfl,hv7,hk7,hm7⟩;have D7:=kp (D2.out.call hk7 hm7);clear hk7 hm7;obtain ⟨r0,r1,r2,rf⟩:=Bk.c3 D7.out.cell;go_wp2_with fail
     rw [HS.out];refine RMid.ret hF (q:=resL) D7.out Tryz.results53 ?_ ?_ hv7 <;> rfl
    have e1:(s.toList == [108,101,116])=false:=tl_false h1;replace HLl:=kp (HLl.out.trans (if_neg h1))
    by_cases h2:Lx.resB (Lx.bs s)=true
    ·replace HS:=kp (HS.out.trans (HLl.out.trans (if_pos (.inl h2))));rw [h2] at HRs;have HFl:=kp (fails_any hF (st:=st) D2.out.rd 30);clear h1 h2;go_wp2_with fail
     refine(HRs.out _).mono ?_;rintro e w' ⟨rfl,rfl⟩;go_wp2_with fail
     refine HFl.out.mono ?_;rintro e w7 ⟨nm7,s7,rfl,hv7,hk7,hm7⟩;have D7:=kp (D2.out.call hk7 hm7);clear hk7 hm7;obtain ⟨r0,r1,r2,rf⟩:=Bk.c3 D7.out.cell;go_wp2_with fail
     rw [HS.out];refine RMid.ret hF (q:=(v0,failS 30 st)) D7.out Tryz.results53 ?_ ?_ hv7 <;> rfl
    rw [eq_false_of_ne_true h2] at HRs
    by_cases h3:s=sTrue
    ·replace HS:=kp (HS.out.trans (HLl.out.trans (if_pos (.inr (.inl h3)))));have e3:(s.toList == [116,114,117,101])=true:=tl_true h3;have HFl:=kp (fails_any hF (st:=st) D2.out.rd 30);clear h1 h2 h3;go_wp2_with fail
     refine(HRs.out _).mono ?_;rintro e w' ⟨rfl,rfl⟩;go_wp2_with fail
     refine HFl.out.mono ?_;rintro e w7 ⟨nm7,s7,rfl,hv7,hk7,hm7⟩;have D7:=kp (D2.out.call hk7 hm7);clear hk7 hm7;obtain ⟨r0,r1,r2,rf⟩:=Bk.c3 D7.out.cell;go_wp2_with fail
     rw [HS.out];refine RMid.ret hF (q:=(v0,failS 30 st)) D7.out Tryz.results53 ?_ ?_ hv7 <;> rfl
    have e3:(s.toList == [116,114,117,101])=false:=tl_false h3
    by_cases h4:s=sFalse
    ·replace HS:=kp (HS.out.trans (HLl.out.trans (if_pos (.inr (.inr h4)))));have e4:(s.toList == [102,97,108,115,101])=true:=tl_true h4;have HFl:=kp (fails_any hF (st:=st) D2.out.rd 30);clear h1 h2 h3 h4;go_wp2_with fail
     refine(HRs.out _).mono ?_;rintro e w' ⟨rfl,rfl⟩;go_wp2_with fail
     refine HFl.out.mono ?_;rintro e w7 ⟨nm7,s7,rfl,hv7,hk7,hm7⟩;have D7:=kp (D2.out.call hk7 hm7);clear hk7 hm7;obtain ⟨r0,r1,r2,rf⟩:=Bk.c3 D7.out.cell;go_wp2_with fail
     rw [HS.out];refine RMid.ret hF (q:=(v0,failS 30 st)) D7.out Tryz.results53 ?_ ?_ hv7 <;> rfl
    have e4:(s.toList == [102,97,108,115,101])=false:=tl_false h4;replace HS:=kp (HS.out.trans (HLc.out HNe.out h1 (fun h=>by rcases h with h | h | h <;> contradiction)))
    clear h1 h2 h3 h4
    by_cases h5:0 < lo
    ·replace HS:=kp (show res=resK from HS.out.trans (if_pos h5));have HC:=kp (HCore.out _ h5 D2.out);go_wp2_with fail
     refine(HRs.out _).mono ?_;rintro e w' ⟨rfl,rfl⟩;go_wp2_with fail
     refine HC.out.mono ?_;rintro e w7 ⟨nm7,s7,rfl,hv7,hk7,hm7⟩;have D7:=kp (D2.out.call hk7 hm7);clear hk7 hm7;obtain ⟨r0,r1,r2,rf⟩:=Bk.c3 D7.out.cell;go_wp2_with fail
     rw [HS.out];refine RMid.ret hF (q:=resK) D7.out Tryz.results53 ?_ ?_ hv7 <;> rfl
    replace HS:=kp (show res=if x.l.tail.length=0 then(v0,failS 30 st) else resC from HS.out.trans (if_neg h5))
    by_cases h6:x.l.length=1
    ·have e6:((x.l.length:Int) == 1)=true:=by rw [h6];rfl
     replace HS:=kp (HS.out.trans (if_pos (by rw [HTn.out,h6])));have HFl:=kp (fails_any hF (st:=st) D2.out.rd 30);clear h6;go_wp2_with fail
     refine(HRs.out _).mono ?_;rintro e w' ⟨rfl,rfl⟩;go_wp2_with fail
     refine HFl.out.mono ?_;rintro e w7 ⟨nm7,s7,rfl,hv7,hk7,hm7⟩;have D7:=kp (D2.out.call hk7 hm7);clear hk7 hm7;obtain ⟨r0,r1,r2,rf⟩:=Bk.c3 D7.out.cell;go_wp2_with fail
     rw [HS.out];refine RMid.ret hF (q:=(v0,failS 30 st)) D7.out Tryz.results53 ?_ ?_ hv7 <;> rfl
    ·have e6:((x.l.length:Int) == 1)=false:=by rw [beq_eq_false_iff_ne];omega
     have h7:1 < x.l.length:=by omega
     replace HS:=kp (HS.out.trans (if_neg (by rw [HTn.out];omega)));have hc1:¬ c=1:=by have:=HXo.out.2.1;omega
     have HC:=kp (HCal.out _ _ (by have h:=lies_drop HXo.out.1 1;rwa [← HTl.out] at h) (c - 1) D2.out);rw [HTn.out] at HC;have hgl:(1:Int)<=(x.l.length:Int):=by omega
     have hgc:(1:Int)<=(c:Int):=by have:=HXo.out.2.1;omega
     clear h6;go_wp2_with fail
     refine(HRs.out _).mono ?_;rintro e w' ⟨rfl,rfl⟩;go_wp2_with fail
     refine HC.out.mono ?_;rintro e w7 ⟨nm7,s7,rfl,hv7,hk7,hm7⟩;have D7:=kp (D2.out.call hk7 hm7);clear hk7 hm7;obtain ⟨r0,r1,r2,rf⟩:=Bk.c3 D7.out.cell;go_wp2_with fail
     rw [HS.out];refine RMid.ret hF (q:=resC) D7.out Tryz.results53 ?_ ?_ hv7 <;> rfl
   | false =>
    rw [hli] at HS;have hno:=HLn.out hli;replace HS:=kp (show res=if x.kind≠0 then(v0,failS 30 st) else resN from HS.out);clear hli
    by_cases hk0:x.kind=0
    ·have d0:(x.kind == 0)=true:=by simp [hk0]
     replace HS:=kp (HS.out.trans (if_neg (fun h=>h hk0)));have HC:=kp (HNam.out _ HE0.out D2.out);clear hno hk0;go_wp2_with fail
     refine HC.out.mono ?_;rintro e w7 ⟨nm7,s7,rfl,hv7,hk7,hm7⟩;have D7:=kp (D2.out.call hk7 hm7);clear hk7 hm7;obtain ⟨r0,r1,r2,rf⟩:=Bk.c3 D7.out.cell;go_wp2_with fail
     rw [HS.out];refine RMid.ret hF (q:=resN) D7.out Tryz.results53 ?_ ?_ hv7 <;> rfl
    ·have d0:(x.kind == 0)=false:=by rw [beq_eq_false_iff_ne];exact hk0
     replace HS:=kp (HS.out.trans (if_pos hk0));have HFl:=kp (fails_any hF (st:=st) D2.out.rd 30);clear hk0
     by_cases hk3:x.kind=3
     ·have d1:(x.kind != 3)=false:=by simp [hk3]
      by_cases hp0:0 < x.l.length
      ·have d2:(0:Int) < (x.l.length:Int):=by omega
       have d4:((x.l.length:Int) == 0)=false:=by rw [beq_eq_false_iff_ne];omega
       obtain ⟨b,o,A0,c0,rfl,_,hc0⟩:=HNth.out hp0;obtain ⟨z0,_,_⟩:=hc0 w2 D2.out.rd.below;rw [Nat.zero_mul,Nat.add_zero] at z0;have d3:((nthX x 0).kind != 0)=true:=by rw [bne_iff_ne];exact fun h=>hno ⟨hk3,hp0,h⟩
       clear hno hk3 hc0;generalize (nthX x 0).kind=zk at *;go_wp2_with fail
       refine HFl.out.mono ?_;rintro e w7 ⟨nm7,s7,rfl,hv7,hk7,hm7⟩;have D7:=kp (D2.out.call hk7 hm7);clear hk7 hm7;obtain ⟨r0,r1,r2,rf⟩:=Bk.c3 D7.out.cell;go_wp2_with fail
       rw [HS.out];refine RMid.ret hF (q:=(v0,failS 30 st)) D7.out Tryz.results53 ?_ ?_ hv7 <;> rfl
      ·have d4:((x.l.length:Int) == 0)=true:=by rw [beq_iff_eq];omega
       clear hno hk3 hp0;go_wp2_with fail
       refine HFl.out.mono ?_;rintro e w7 ⟨nm7,s7,rfl,hv7,hk7,hm7⟩;have D7:=kp (D2.out.call hk7 hm7);clear hk7 hm7;obtain ⟨r0,r1,r2,rf⟩:=Bk.c3 D7.out.cell;go_wp2_with fail
       rw [HS.out];refine RMid.ret hF (q:=(v0,failS 30 st)) D7.out Tryz.results53 ?_ ?_ hv7 <;> rfl
     ·have d1:(x.kind != 3)=true:=by rw [bne_iff_ne];exact hk3
      clear hno hk3;go_wp2_with fail
      refine HFl.out.mono ?_;rintro e w7 ⟨nm7,s7,rfl,hv7,hk7,hm7⟩;have D7:=kp (D2.out.call hk7 hm7);clear hk7 hm7;obtain ⟨r0,r1,r2,rf⟩:=Bk.c3 D7.out.cell;go_wp2_with fail
      rw [HS.out];refine RMid.ret hF (q:=(v0,failS 30 st)) D7.out Tryz.results53 ?_ ?_ hv7 <;> rfl
 ·have he1:(st.e != 0)=true:=by rw [bne_iff_ne];exact he
  replace HS:=kp (HS.out.trans (if_pos he));clear he;obtain ⟨r0,r1,r2,rf⟩:=Bk.c3 D1.out.cell;go_wp2_with fail
  rw [HS.out];refine RMid.ret hF (q:=(v0,st)) D1.out Tryz.results53 ?_ ?_ (nil_ok (fun _=>rfl)) <;> rfl
theorem rterm_any {F:RFix} (hF:RFixOk F):∀ (n:Nat) (x:Sexp),x.full < n->x.full<=1500000->RTermC F x
 | 0,_,h,_=>by omega
 | n+1,x,h,hx=>rterm_step hF (fun y hy=>rterm_any hF n y (by omega) (by omega)) hx
def pvy (p:Param):Vy:=(p.name,p.sort)
theorem bn2 (w:World) (x:Obj) (l:Array Value) (t:TypeId):((w.alloc x).alloc (.cells l t)).heap[w.heap.size+1]?=some (.cells l t (0,0)):=by simpa using heap_alloc_new (w.alloc x) (.cells l t)
theorem env_of (vars:List Param):EnvEq (envOf vars) (vars.map pvy):=by
 unfold EnvEq envOf;rw [List.map_reverse,List.map_map]
 rfl
theorem rsort_any {w:World} {A1 A2 A3:Option Addr} {c1 c2 c3:Nat} {g:Sig} (h:SigAt w A1 c1 A2 c2 A3 c3 g) (hl1:g.sorts.length<=1000000) (hl2:g.funs.length<=1000000) (hl3:g.macros.length<=1000000) {Av:Option Addr} {vars:List Param} (cv:Nat) (hv:Lies 2 ParamR w Av vars) (hvl:vars.length<=1000000) {A:Option Addr} {c:Nat} {x:Sexp} (hx:XAt w A c x) (hfx:x.full<=1500000) :
  Calls Tryz.prog 31 #[.agg #[.slice A1 g.sorts.length c1,.slice A2 g.funs.length c2,.slice A3 g.macros.length c3],.slice Av vars.length cv,.agg #[.int .i8 x.kind,.string x.text,.slice A x.l.length c]] w fun e w'=>e=.returned (.tuple #[.int .i64 (sortO g (envOf vars) x).1,.int .i64 (sortO g (envOf vars) x).2])/\Below w.heap.size w w':=by
 have HO:=kp (show sortO g (envOf vars) x=if checkE g≠0\/x.may=false then(0,2) else if(sortP g (envOf vars) x).2.e=0 then((sortP g (envOf vars) x).1.1,0) else(0,(sortP g (envOf vars) x).2.e) from rfl);have HSg:=kp h;have HX:=kp hx;have HV:=kp hv;have HFx:=kp hfx;have HLl:=kp (show g.sorts.length<=1000000/\g.funs.length<=1000000/\g.macros.length<=1000000 from⟨hl1,hl2,hl3⟩);have HVt:=kp (show ∀ (k:Nat) q,vars[k]?=some q->(vars.map pvy).take (k+1)=(vars.map pvy).take k ++ [pvy q] from fun k q hq=>by rw [List.take_add_one,List.getElem?_map,hq];rfl);have HPok:=kp (show ∀ (k:Nat) q,vars[k]?=some q->VyOk (pvy q) from fun k q hq=>⟨par_name hv hq,par_sort hv (mgq hq)⟩);have B2:=kp ((((brq w).alloc nlq (.cells #[.slice A1 g.sorts.length c1,.slice A2 g.funs.length c2,.slice A3 g.macros.length c3] 26)).alloc (by simp) (.cells #[.int .i8 x.kind,.string x.text,.slice A x.l.length c] 30)));have S2:=kp (Bk.keep (Bk.new w (.cells #[.slice A1 g.sorts.length c1,.slice A2 g.funs.length c2,.slice A3 g.macros.length c3] 26)) (.cells #[.int .i8 x.kind,.string x.text,.slice A x.l.length c] 30));have X2:=kp (show((w.alloc (.cells #[.slice A1 g.sorts.length c1,.slice A2 g.funs.length c2,.slice A3 g.macros.length c3] 26)).alloc (.cells #[.int .i8 x.kind,.string x.text,.slice A x.l.length c] 30)).heap[w.heap.size+1]?=some (.cells #[.int .i8 x.kind,.string x.text,.slice A x.l.length c] 30 (0,0)) by have h:=Bk.new (w.alloc (.cells #[.slice A1 g.sorts.length c1,.slice A2 g.funs.length c2,.slice A3 g.macros.length c3] 26)) (.cells #[.int .i8 x.kind,.string x.text,.slice A x.l.length c] 30);simpa using h)
 have HChk:=kp (fun W (hW:Below w.heap.size w W)=>rcheck_any (h.on hW));have HMay:=kp (fun W (hW:Below w.heap.size w W)=>rsxmay_any (hx.on hW));clear h hx hv;generalize hso:sortO g (envOf vars) x=so at *;clear hso
 go_enter Tryz.func31,Tryz.ntmps31
 go_upto_region 1 with fail
 generalize (w.alloc (.cells #[.slice A1 g.sorts.length c1,.slice A2 g.funs.length c2,.slice A3 g.macros.length c3] 26)).alloc (.cells #[.int .i8 x.kind,.string x.text,.slice A x.l.length c] 30)=w2 at *;obtain ⟨s0,s1,s2,sf⟩:=Bk.c3 S2.out;have HC:=kp (HChk.out w2 B2.out)
 by_cases hck:checkE g=0
 ·have HCk:=kp hck;rw [hck] at HC;clear hck;go_wp2_with fail
  refine HC.out.mono ?_;rintro e w3 ⟨rfl,hb3⟩;have B3:=kp (B2.out.trans (hb3.mono B2.out.size));have S3:=kp (Bk.on S2.out hb3);have X3:=kp (Bk.on X2.out hb3);clear hb3 s0 s1 s2 sf;obtain ⟨q0,q1,q2,qf⟩:=Bk.c3 X3.out;have HY:=kp (HMay.out w3 B3.out)
  cases hmy:x.may with
  | false =>
   rw [hmy] at HY;replace HO:=kp (show so=(0,2) by rw [HO.out,if_pos (.inr hmy)]);go_wp2_with fail
   refine HY.out.mono ?_;rintro e w4 ⟨rfl,hb4⟩;have B4:=kp (B3.out.trans (hb4.mono B3.out.size));clear hb4;go_wp2_with fail
   go_ret2;exact⟨by rw [HO.out];rfl,B4.out⟩
  | true =>
   rw [hmy] at HY;replace HO:=kp (show so=if(sortP g (envOf vars) x).2.e=0 then((sortP g (envOf vars) x).1.1,0) else(0,(sortP g (envOf vars) x).2.e) by rw [HO.out,if_neg (fun h=>by rcases h with h | h;exact h HCk.out;rw [h] at hmy;cases hmy)]);clear hmy;go_wp2_with fail
   refine HY.out.mono ?_;rintro e w4 ⟨rfl,hb4⟩;have B4:=kp (B3.out.trans (hb4.mono B3.out.size));have S4:=kp (Bk.on S3.out hb4);have X4:=kp (Bk.on X3.out hb4);have hw4:=lt_of_block X4.out;clear hb4 q0 q1 q2 qf S2 S3 X2 X3 B2 B3 HChk HMay HC HY;go_wp2_with fail
   go_loopw [8,9] (fun v' i' wq=>∃ k:Nat,k<=vars.length/\i'=.int .i64 k/\VyRow (w.heap.size+2) wq v' ((vars.map pvy).take k)/\Below w.heap.size w wq/\wq.heap[w.heap.size]?=some (.cells #[.slice A1 g.sorts.length c1,.slice A2 g.funs.length c2,.slice A3 g.macros.length c3] 26 (0,0))/\wq.heap[w.heap.size+1]?=some (.cells #[.int .i8 x.kind,.string x.text,.slice A x.l.length c] 30 (0,0))) (fun _ i' _=>vars.length - (intOf i').toNat)
   case atStart=>exact⟨0,Nat.zero_le _,rfl,VyRow.nil _ _,B4.out,S4.out,X4.out⟩
   case round =>
    clear B4 S4 X4;obtain ⟨k,hk,rfl,hrow,hb,hs,hx⟩:=hrel;obtain ⟨us,hus⟩:∃ us,us=(vars.map pvy).take k:=⟨_,rfl⟩;rw [← hus] at hrow;have HUs:=kp hus;have HUn:=kp (show us.length=k by rw [hus,List.length_take,List.length_map];omega);have RR':=kp hrow;have BR:=kp hb;have SR:=kp hs;have XR:=kp hx;obtain ⟨Ao,co,hvo,hco1,hco2⟩:=hrow.shape;subst hvo;clear hrow hb hs hx hus hco1 hco2;have hwz:w.heap.size+1 < wr.heap.size:=lt_of_block XR.out
    by_cases hkl:k < vars.length
    ·have hlt2:(k:Int) < (vars.length:Int):=by omega
     obtain ⟨q,hq⟩:∃ q,vars[k]?=some q:=⟨_,gqe hkl⟩;obtain ⟨pb,po,rfl,hqn,hqc⟩:=par_get HV.out hq;have HPc:=kp hqc;have HQ:=kp (HVt.out k q hq);have HQo:=kp (HPok.out k q hq);clear hq hqc;have B0:=kp BR.out.drew;have BB:=kp ((brq wr).drew.alloc nlq (.cells #[.string q.name,.int .i64 q.sort,.int .i64 0] 94));have NB:=kp (show(wr.drew.alloc (.cells #[.string q.name,.int .i64 q.sort,.int .i64 0] 94)).heap[wr.heap.size]?=some (.cells #[.string (pvy q).1,.int .i64 (pvy q).2,.int .i64 0] 94 (0,0)) from Bk.new wr.drew _);have RB:=kp (RR'.out.below BB.out);have SB:=kp (Bk.on SR.out BB.out);have XB:=kp (Bk.on XR.out BB.out);have DB:=kp (BR.out.trans (BB.out.mono BR.out.size));have hul2:us.length < 4000000000000:=by have:=HUn.out;omega
     go_upto_region 7 with fail
     refine wp_region_held_drew (S:=fun W=>Below w.heap.size w W) (by kernel_rfl) (B0.out) (fun hHeld=>?_);refine plz [0,1,2,3,4,5,6,7,8,9,10,11] ?_;iterate 12 (refine tnz (v:=?_) ?_ ?_;rotate_left;(focus first | ((intro w hSw;go_simp;try with_reducible rfl);done) | ((intro w hSw;(obtain ⟨e0,e1⟩:=HPc.out _ hSw;go_simp;try with_reducible rfl));done));try simp only [pt])
     refine pzz ?_;refine rd 12 fun K hK=>?_;go_simp;refine hK.out _ _ (DB.out) (fun hHeld=>?_);clear hK K;try simp only [pt]
     refine rd 13 fun K hK=>?_;refine push_vstep (u:=pvy q) (by rfl) (.tmp 26) (.tmp 38) (by rfl) (by rfl) RB.out (by rfl) NB.out HQo.out hul2 (Nat.le_trans (show w.heap.size+2<=wr.heap.size by omega) BB.out.size) ?_;intro A5 c5 w5 hp5 hg5;have hk5:Keeps (fun k=>(Value.slice Ao us.length co).ownBlock=some k) _ w5:=(Keeps.refl _ _).grown hg5 (fun j hj=>.inl hj);have R5:=kp hp5;have D5:=kp (DB.out.trans (hk5.below (fun k hk=>by have:=(RB.out.own.lt k hk).1;omega) DB.out.size));have S5:=kp (grown_blkV RB.out hg5 SB.out (by omega));have X5:=kp (grown_blkV RB.out hg5 XB.out (by omega));clear hp5 hg5 hk5;refine hK.out _ _ D5.out (fun hHeld=>?_);clear hK K;simp only [Act.put];refine tk 14 (v:=?_) ?_ ?_;rotate_left
     ·(intro w hSw;go_simp;try with_reducible rfl)
     try simp only [pt]
     refine dnz ?_;have R6:=kp (show VyRow (w.heap.size+2) w5 (.slice A5 (us.length+1) c5) ((vars.map pvy).take (k+1)) by rw [HQ.out,← HUs.out];exact R5.out);go_wp2_with fail
     go_roundw
     case rel=>exact⟨k+1,by omega,by go_num,R6.out,D5.out,S5.out,X5.out⟩
     case measure=>simp [intOf];omega
    ·obtain rfl:k=vars.length:=by omega
     have HUe:=kp (show us=vars.map pvy by rw [HUs.out,List.take_of_length_le (by simp)]);have S6:=kp (Bk.keep SR.out (.cells #[.slice A1 g.sorts.length c1,.slice A2 g.funs.length c2,.slice A3 g.macros.length c3,.slice none 0 0,.int .i64 0,.bool false,.int .i64 (g.macros.length:Int),.int .i64 0,.int .i64 0] 97));have X6:=kp (Bk.keep XR.out (.cells #[.slice A1 g.sorts.length c1,.slice A2 g.funs.length c2,.slice A3 g.macros.length c3,.slice none 0 0,.int .i64 0,.bool false,.int .i64 (g.macros.length:Int),.int .i64 0,.int .i64 0] 97));have M6:=kp (Bk.new wr (.cells #[.slice A1 g.sorts.length c1,.slice A2 g.funs.length c2,.slice A3 g.macros.length c3,.slice none 0 0,.int .i64 0,.bool false,.int .i64 (g.macros.length:Int),.int .i64 0,.int .i64 0] 97));have BM:=kp ((brq wr).alloc nlq (.cells #[.slice A1 g.sorts.length c1,.slice A2 g.funs.length c2,.slice A3 g.macros.length c3,.slice none 0 0,.int .i64 0,.bool false,.int .i64 (g.macros.length:Int),.int .i64 0,.int .i64 0] 97));have B6:=kp (BR.out.trans (BM.out.mono BR.out.size));have R6:=kp (RR'.out.below BM.out);obtain ⟨F,hFe⟩:∃ F:RFix,F=⟨w,wr.heap.size,A1,c1,A2,c2,A3,c3,g⟩:=⟨_,rfl⟩
     have hFk:RFixOk F:=by
      subst hFe;exact⟨HSg.out,HCk.out,BR.out.size,HLl.out.1,HLl.out.2.1,HLl.out.2.2⟩
     have hFm:F.rb=wr.heap.size:=by rw [hFe]
     have HVr:=kp (show VarsS F (wr.alloc (.cells #[.slice A1 g.sorts.length c1,.slice A2 g.funs.length c2,.slice A3 g.macros.length c3,.slice none 0 0,.int .i64 0,.bool false,.int .i64 (g.macros.length:Int),.int .i64 0,.int .i64 0] 97)) Ao us from by
      have hR:VyRow (w.heap.size+2) _ (.slice Ao us.length co) us:=R6.out;intro W hW
      exact VyRow.lies (base:=w.heap.size+2) (k:=us.length) (c:=co) ⟨keep_row2 hR.own hW (fun g' hg' hk=>by
       have h1:=(RR'.out.own.lt g' hg').2;unfold onRb at hk
       omega),hR.ok⟩)
     have HC:=kp (show Calls Tryz.prog 53 #[.pointer (some ⟨wr.heap.size,0,none⟩),.agg #[.int .i8 x.kind,.string x.text,.slice A x.l.length c],.slice Ao us.length co] (wr.alloc (.cells #[.slice A1 g.sorts.length c1,.slice A2 g.funs.length c2,.slice A3 g.macros.length c3,.slice none 0 0,.int .i64 0,.bool false,.int .i64 (g.macros.length:Int),.int .i64 0,.int .i64 0] 97)) (RPost F (wr.alloc (.cells #[.slice A1 g.sorts.length c1,.slice A2 g.funs.length c2,.slice A3 g.macros.length c3,.slice none 0 0,.int .i64 0,.bool false,.int .i64 (g.macros.length:Int),.int .i64 0,.int .i64 0] 97)) (sortP g (envOf vars) x)) by
      have hm:RR F (wr.alloc (.cells #[.slice A1 g.sorts.length c1,.slice A2 g.funs.length c2,.slice A3 g.macros.length c3,.slice none 0 0,.int .i64 0,.bool false,.int .i64 (g.macros.length:Int),.int .i64 0,.int .i64 0] 97)) (st0 []).e:=by
       subst hFe;exact⟨M6.out,B6.out⟩
      have:=rterm_any hFk _ x (Nat.lt_succ_self _) HFx.out (c:=c) (A:=A) (cv:=co) hm (by rw [hFe];exact HX.out) HVr.out (by have:=HUn.out;have:=HFx.out;omega) (fun _=>by rw [HUe.out];exact env_of vars);rw [hFe] at this;rw [hFe];exact this)
     have HKm:=kp (fun(W:World) e (h:RR F W e)=>h.blk);rw [hFm] at HKm;have HKg:=kp (show F.g=g/\F.A1=A1/\F.A2=A2/\F.A3=A3/\F.c1=c1/\F.c2=c2/\F.c3=c3/\F.W0=w by rw [hFe];exact⟨rfl,rfl,rfl,rfl,rfl,rfl,rfl,rfl⟩);generalize sortP g (envOf vars) x=pr at *;obtain ⟨pv,ps⟩:=pr;obtain ⟨s0,s1,s2,sf⟩:=Bk.c3 SR.out;clear hFe M6 BM R6 SR XR RR' HUe HVr;go_upto_region 9 with fail
     generalize wr.alloc (.cells #[.slice A1 g.sorts.length c1,.slice A2 g.funs.length c2,.slice A3 g.macros.length c3,.slice none 0 0,.int .i64 0,.bool false,.int .i64 (g.macros.length:Int),.int .i64 0,.int .i64 0] 97)=w6 at *;clear s0 s1 s2 sf;obtain ⟨q0,q1,q2,qf⟩:=Bk.c3 X6.out;go_wp2_with fail
     refine HC.out.mono ?_;rintro e w7 ⟨nm7,s7,rfl,hv7,hk7,hm7⟩;have B7:=kp (show Below w.heap.size w w7 from B6.out.trans (hk7.below (fun k hk=>by unfold onRb at hk;have:=BR.out.size;omega) B6.out.size));have hb7:=HKm.out _ _ hm7;have MB8:=kp (Bk.keep hb7 (.cells #[.string nm7,.int .i64 s7,.int .i64 0] 94));have V8:=kp (Bk.new w7 (.cells #[.string nm7,.int .i64 s7,.int .i64 0] 94));have B8:=kp (B7.out.alloc B7.out.size (.cells #[.string nm7,.int .i64 s7,.int .i64 0] 94));have HVs:=kp hv7.same;clear hv7 hk7 hm7 hb7 q0 q1 q2 qf HC HKm;generalize wr.heap.size=mb at *;go_upto_region 10 with fail
     generalize w7.alloc (.cells #[.string nm7,.int .i64 s7,.int .i64 0] 94)=w8 at *;generalize w7.heap.size=vb at *;obtain ⟨m0,m1,m2,m3,m4,m5,m6,m7,m8,mf⟩:=Bk.c9 MB8.out;obtain ⟨y0,y1,y2,yf⟩:=Bk.c3 V8.out
     by_cases he:ps.e=0
     ·have he1:(ps.e != 0)=false:=by simp [he]
      replace HO:=kp (show so=(s7,0) by rw [HO.out,if_pos he];have h:s7=pv.1:=HVs.out he;rw [h]);clear he;go_wp2_with fail
      go_ret2;exact⟨by rw [HO.out];rfl,B8.out⟩
     ·have he1:(ps.e != 0)=true:=by rw [bne_iff_ne];exact he
      replace HO:=kp (show so=(0,ps.e) by rw [HO.out,if_neg he]);clear he;go_upto_region 11 with fail
      have B0:=kp (brq w8).drew;refine wp_region_held_drew (S:=fun W=>Below w8.heap.size w8 W) (by kernel_rfl) (B0.out) (fun hHeld=>?_);refine plz [0,1,2,3,4,5] ?_;iterate 6 (refine tnz (v:=?_) ?_ ?_;rotate_left;(focus first | ((intro w hSw;go_simp;try with_reducible rfl);done) | ((intro w hSw;(obtain ⟨m0,m1,m2,m3,m4,m5,m6,m7,m8,mf⟩:=Bk.c9 (Bk.on MB8.out hSw);go_simp;try with_reducible rfl));done));try simp only [pt])
      refine pzz ?_;refine dnz ?_;go_wp2_with fail
      go_ret2;exact⟨by rw [HO.out];rfl,B8.out.trans (B0.out.mono B8.out.size)⟩
 ·have hck':(checkE g != 0)=true:=by rw [bne_iff_ne];exact hck
  replace HO:=kp (show so=(0,2) by rw [HO.out,if_pos (.inl hck)]);clear hck;go_wp2_with fail
  refine HC.out.mono ?_;rintro e w3 ⟨rfl,hb3⟩;have B3:=kp (B2.out.trans (hb3.mono B2.out.size));clear hb3;go_wp2_with fail
  go_ret2;exact⟨by rw [HO.out];rfl,B3.out⟩
theorem rfits_any {w:World} {A1 A2 A3:Option Addr} {c1 c2 c3:Nat} {g:Sig} (h:SigAt w A1 c1 A2 c2 A3 c3 g) (hl1:g.sorts.length<=1000000) (hl2:g.funs.length<=1000000) (hl3:g.macros.length<=1000000)
  {m:Macro} {Ap Ab:Option Addr} {cp cb:Nat} (hp:Lies 2 ParamR w Ap m.params) (hpl:m.params.length<=1000000) (hb:XAt w Ab cb m.body) (hf:m.body.full<=1500000) :
  Calls Tryz.prog 17 #[.agg #[.slice A1 g.sorts.length c1,.slice A2 g.funs.length c2,.slice A3 g.macros.length c3],.agg #[.string m.name,.slice Ap m.params.length cp,.int .i64 m.res,.int .i8 m.body.kind,.string m.body.text,.slice Ab m.body.l.length cb]] w fun e w'=>e=.returned (.int .i64 (fitsO g m))/\Below w.heap.size w w':=by
 have HF:=kp (show fitsO g m=if(sortO g (envOf m.params) m.body).2=0/\(sortO g (envOf m.params) m.body).1≠m.res then 33 else(sortO g (envOf m.params) m.body).2 from rfl);have HS:=kp (fun W (hW:Below w.heap.size w W)=>rsort_any (h.on hW) hl1 hl2 hl3 cp (hp.on ParamR.lasts hW) hpl (hb.on hW) hf);have B2:=kp (((brq w).alloc nlq (.cells #[.slice A1 g.sorts.length c1,.slice A2 g.funs.length c2,.slice A3 g.macros.length c3] 26)).alloc (by simp) (.cells #[.string m.name,.slice Ap m.params.length cp,.int .i64 m.res,.int .i8 m.body.kind,.string m.body.text,.slice Ab m.body.l.length cb] 47));have S2:=kp (Bk.keep (Bk.new w (.cells #[.slice A1 g.sorts.length c1,.slice A2 g.funs.length c2,.slice A3 g.macros.length c3] 26)) (.cells #[.string m.name,.slice Ap m.params.length cp,.int .i64 m.res,.int .i8 m.body.kind,.string m.body.text,.slice Ab m.body.l.length cb] 47));have M2:=kp (bn2 w (.cells #[.slice A1 g.sorts.length c1,.slice A2 g.funs.length c2,.slice A3 g.macros.length c3] 26) #[.string m.name,.slice Ap m.params.length cp,.int .i64 m.res,.int .i8 m.body.kind,.string m.body.text,.slice Ab m.body.l.length cb] 47);clear h hp hb;generalize fitsO g m=fo at *;generalize sortO g (envOf m.params) m.body=so at *;obtain ⟨s,e0⟩:=so
 go_enter Tryz.func17,Tryz.ntmps17
 go_upto_region 1 with fail
 generalize (w.alloc (.cells #[.slice A1 g.sorts.length c1,.slice A2 g.funs.length c2,.slice A3 g.macros.length c3] 26)).alloc (.cells #[.string m.name,.slice Ap m.params.length cp,.int .i64 m.res,.int .i8 m.body.kind,.string m.body.text,.slice Ab m.body.l.length cb] 47)=w2 at *;obtain ⟨s0,s1,s2,sf⟩:=Bk.c3 S2.out;obtain ⟨m0,m1,m2,m3,m4,m5,mf⟩:=Bk.c6 M2.out;go_wp2_with fail
 refine(HS.out w2 B2.out).mono ?_;rintro e w3 ⟨rfl,hb3⟩;have B3:=kp (B2.out.trans (hb3.mono B2.out.size));have M3:=kp (Bk.on M2.out hb3);clear hb3 s0 s1 s2 sf m0 m1 m2 m3 m4 m5 mf;obtain ⟨m0,m1,m2,m3,m4,m5,mf⟩:=Bk.c6 M3.out
 by_cases he:e0=0
 ·have he':(e0 != 0)=false:=by simp [he]
  by_cases hr:s=m.res
  ·have hr':(s != m.res)=false:=by simp [hr]
   have HE:=kp (show fo=0 from(HF.out.trans (if_neg (fun h=>h.2 hr))).trans he);clear he hr;go_wp2_with fail
   go_ret;exact⟨ret_int HE.out.symm,B3.out⟩
  ·have hr':(s != m.res)=true:=by simp [hr]
   have HE:=kp (HF.out.trans (if_pos ⟨he,hr⟩));clear he hr;go_wp2_with fail
   go_ret;exact⟨ret_int HE.out.symm,B3.out⟩
 ·have he':(e0 != 0)=true:=by rw [bne_iff_ne];exact he
  have HE:=kp (HF.out.trans (if_neg (fun h=>he h.1)));clear he;go_wp2_with fail
  go_ret;exact⟨ret_int HE.out.symm,B3.out⟩
theorem fitsl_all {w:World} {A1 A2 A3:Option Addr} {c1 c2 c3:Nat} {g:Sig} (h:SigAt w A1 c1 A2 c2 A3 c3 g) {m:Macro} {Ap Ab:Option Addr} {cp cb:Nat} (hp:Lies 2 ParamR w Ap m.params) (hx:XAt w Ab cb m.body) (hM:sumOf (fun m:Macro=>m.body.full) g.macros<=1048576) (hf:m.body.full<=1048576) :
  Calls Tryz.prog 4 #[.agg #[.slice A1 g.sorts.length c1,.slice A2 g.funs.length c2,.slice A3 g.macros.length c3],.agg #[.string m.name,.slice Ap m.params.length cp,.int .i64 m.res,.int .i8 m.body.kind,.string m.body.text,.slice Ab m.body.l.length cb]] w fun e w'=>e=.returned (.bool true)/\Below w.heap.size w w':=by
 have B2:=kp (((brq w).alloc nlq (.cells #[.slice A1 g.sorts.length c1,.slice A2 g.funs.length c2,.slice A3 g.macros.length c3] 26)).alloc (by simp) (.cells #[.string m.name,.slice Ap m.params.length cp,.int .i64 m.res,.int .i8 m.body.kind,.string m.body.text,.slice Ab m.body.l.length cb] 47));have G2:=kp (Bk.keep (Bk.new w (.cells #[.slice A1 g.sorts.length c1,.slice A2 g.funs.length c2,.slice A3 g.macros.length c3] 26)) (.cells #[.string m.name,.slice Ap m.params.length cp,.int .i64 m.res,.int .i8 m.body.kind,.string m.body.text,.slice Ab m.body.l.length cb] 47));have M2:=kp (bn2 w (.cells #[.slice A1 g.sorts.length c1,.slice A2 g.funs.length c2,.slice A3 g.macros.length c3] 26) #[.string m.name,.slice Ap m.params.length cp,.int .i64 m.res,.int .i8 m.body.kind,.string m.body.text,.slice Ab m.body.l.length cb] 47);have HWk:=kp wakes_any;have HG3:=kp (fun W (hW:Below w.heap.size w W)=>great3_any (hx.on hW) (by omega));have HG4:=kp (fun W (hW:Below w.heap.size w W)=>Gr.great4_any (h.on hW));have HMf:=kp (show ∀ m ∈ g.macros,m.body.full<=1048576 from fun _ hm=>Nat.le_trans (sumOf_mem (sz:=fun m:Macro=>m.body.full) hm) hM);have HFi:=kp (fun(h1:g.sorts.length<=1000000) (h2:g.funs.length<=1000000) (h3:g.macros.length<=1000000) (h4:m.params.length<=20) W (hW:Below w.heap.size w W)=>fits_any (cp:=cp) (h.on hW) h1 h2 h3 (fun m hm=>Nat.le_trans (HMf.out m hm) (by omega)) (m:=m) (hp.on ParamR.lasts hW) (by omega) (hx.on hW) (by omega))
 have HRf:=kp (fun(h1:g.sorts.length<=1000000) (h2:g.funs.length<=1000000) (h3:g.macros.length<=1000000) (h4:m.params.length<=20) W (hW:Below w.heap.size w W)=>rfits_any (cp:=cp) (h.on hW) h1 h2 h3 (m:=m) (hp.on ParamR.lasts hW) (by omega) (hx.on hW) (by omega));clear h hp hx hM hf;generalize fitsO g m=fo at *
 go_enter Tryz.func4,Tryz.ntmps4
 go_upto_region 1 with fail
 generalize (w.alloc (.cells #[.slice A1 g.sorts.length c1,.slice A2 g.funs.length c2,.slice A3 g.macros.length c3] 26)).alloc (.cells #[.string m.name,.slice Ap m.params.length cp,.int .i64 m.res,.int .i8 m.body.kind,.string m.body.text,.slice Ab m.body.l.length cb] 47)=w2 at *;obtain ⟨g0,g1,g2,gf⟩:=Bk.c3 G2.out;obtain ⟨m0,m1,m2,m3,m4,m5,mf⟩:=Bk.c6 M2.out;go_wp2_with fail
 refine(HG3.out _ B2.out).mono ?_;rintro e w3 ⟨⟨b1,rfl,hb1⟩,hb3⟩;have B3:=kp (B2.out.trans (hb3.mono B2.out.size));have G3:=kp (Bk.on G2.out hb3);have M3:=kp (Bk.on M2.out hb3);clear hb3 hb1 g0 g1 g2 gf m0 m1 m2 m3 m4 m5 mf B2 G2 M2
 cases b1 with
 | true =>
  go_wp2_with fail
  refine(HWk.out _).mono ?_;rintro e w4 ⟨rfl,hb4⟩;have B4:=kp (B3.out.trans (hb4.mono B3.out.size));clear hb4;go_wp2_with fail
  go_ret;exact⟨rfl,B4.out⟩
 | false =>
  obtain ⟨g0,g1,g2,gf⟩:=Bk.c3 G3.out;go_wp2_with fail
  refine(HG4.out _ B3.out).mono ?_;rintro e w4 ⟨⟨b2,rfl,hb2⟩,hb4⟩;have B4:=kp (B3.out.trans (hb4.mono B3.out.size));have G4:=kp (Bk.on G3.out hb4);have M4:=kp (Bk.on M3.out hb4);have HSm:=kp hb2;clear hb4 hb2 g0 g1 g2 gf B3 G3 M3;obtain ⟨m0,m1,m2,m3,m4,m5,mf⟩:=Bk.c6 M4.out
  cases b2 with
  | true =>
   go_wp2_with fail
   refine(HWk.out _).mono ?_;rintro e w5 ⟨rfl,hb5⟩;have B5:=kp (B4.out.trans (hb5.mono B4.out.size));clear hb5;go_wp2_with fail
   go_ret;exact⟨rfl,B5.out⟩
  | false =>
   have HSm2:=kp (HSm.out rfl)
   by_cases h20:(20:Int) < (m.params.length:Int)
   ·have h20':decide ((20:Int) < (m.params.length:Int))=true:=decide_eq_true h20;go_wp2_with fail
    refine(HWk.out _).mono ?_;rintro e w5 ⟨rfl,hb5⟩;have B5:=kp (B4.out.trans (hb5.mono B4.out.size));clear hb5;go_wp2_with fail
    go_ret;exact⟨rfl,B5.out⟩
   ·have h20':decide ((20:Int) < (m.params.length:Int))=false:=dfq h20;have HF:=kp (HFi.out (by have:=HSm2.out.1;omega) (by have:=HSm2.out.2.1;omega) (by have:=HSm2.out.2.2;omega) (by omega));have HR:=kp (HRf.out (by have:=HSm2.out.1;omega) (by have:=HSm2.out.2.1;omega) (by have:=HSm2.out.2.2;omega) (by omega));have hfo:(fo == fo)=true:=by simp
    go_upto_region 3 with fail
    clear m0 m1 m2 m3 m4 m5 mf;have B0:=kp (brq w4).drew;refine wp_region_held_drew (S:=fun W=>Below w4.heap.size w4 W) (by kernel_rfl) (B0.out) (fun hHeld=>?_);refine plz [0,1,3,4] ?_;iterate 4 (refine tnz (v:=?_) ?_ ?_;rotate_left;(focus first | ((intro w hSw;(obtain ⟨g0,g1,g2,gf⟩:=Bk.c3 (Bk.on G4.out hSw);go_simp;try with_reducible rfl));done) | ((intro w hSw;(obtain ⟨m0,m1,m2,m3,m4,m5,mf⟩:=Bk.c6 (Bk.on M4.out hSw);go_simp;try with_reducible rfl));done));try simp only [pt])
    refine pzz ?_;have BC:=kp (B4.out.trans (B0.out.mono B4.out.size));refine rd 2 fun K hK=>?_;go_simp
    (refine(HF.out _ BC.out).mono ?_;rintro e w5 ⟨rfl,hb5⟩;have D5:=kp (B0.out.trans (hb5.mono B0.out.size));have B5:=kp (BC.out.trans (hb5.mono BC.out.size));clear hb5)
    refine hK.out _ _ (D5.out) (fun hHeld=>?_);clear hK K;try simp only [pt]
    refine rd 5 fun K hK=>?_;go_simp
    (refine(HR.out _ B5.out).mono ?_;rintro e w6 ⟨rfl,hb6⟩;have D6:=kp (D5.out.trans (hb6.mono D5.out.size));have B6:=kp (B5.out.trans (hb6.mono B5.out.size));clear hb6)
    refine hK.out _ _ (D6.out) (fun hHeld=>?_);clear hK K;try simp only [pt]
    refine plz [6,7] ?_;iterate 2 (refine tnz (v:=?_) ?_ ?_;rotate_left;(focus (intro w hSw;go_simp;try with_reducible rfl));try simp only [pt])
    refine pzz ?_;try rw [hfo]
    refine rd 8 fun K hK=>?_;go_simp
    (refine(HWk.out _).mono ?_;rintro e w7 ⟨rfl,hb7⟩;have D7:=kp (D6.out.trans (hb7.mono D6.out.size));have B7:=kp (B6.out.trans (hb7.mono B6.out.size));clear hb7)
    refine hK.out _ _ (D7.out) (fun hHeld=>?_);clear hK K;try simp only [pt]
    refine plz [9,10] ?_;iterate 2 (refine tnz (v:=?_) ?_ ?_;rotate_left;(focus (intro w hSw;go_simp;try with_reducible rfl));try simp only [pt])
    refine pzz ?_;refine dnz ?_;go_wp2_with fail
    go_ret;exact⟨rfl,B7.out⟩
end El
namespace elabFits
open Go.RowKit Go.ChangeShapes Go.WideShapes Go.ChangeAt Go.WideMaps Go.WideElems
open Go.ChangeMaps (setBlock shut_map_nil open_string shut_string keptBut_setBlock frozen?_setBlock heap_setBlock_same)
theorem cellsInt:Tryz.prog.cellsOf 3=1:=by kernel_rfl
theorem contract (H:Type) (enc:TypeId × Value->H) (W:World) (base:Nat) (args:Array Value) (ds gs:List (DataW H)) (before:List MemPlace)
  (hval:∀ (j:Nat) t v,Tryz.f4.params[j]?=some t->args[j]?=some v->Value.okWide Tryz.prog W .any base t v)
  (hW:DataW.Whole enc Tryz.prog Tryz.f4.params.toList Rows.elabFitsSpec.vars false W args.toList ds gs before) (hR:(DataW.weightsEach Tryz.prog (Tryz.f4.params.toList ++ Rows.elabFitsSpec.plain.varTypes Tryz.prog) (ds ++ gs)).all (·<=reachBytes)=true) (hk:Rows.uptoSmall H (ds ++ gs)=true) :
  Calls Tryz.prog 4 args W fun e W'=>∃ v,e=.returned v/\Rows.elabFitsSpec.post enc Tryz.prog Tryz.f4 false true false false W args v W':=by
 have hW':=hW;obtain ⟨p,q,hA0,hV,rfl,hfz,hnd⟩:=hW;have hA:DataW.TrodAll enc Tryz.prog W 0 (fun _=>true) true Tryz.f4.params.toList args.toList ds p:=hA0;have hfit:∀ (j:Nat) t d,Tryz.f4.params.toList[j]?=some t->ds[j]?=some d->Fits Tryz.prog t d:=fun j t d h1 h2=>fits_each (fun m hm=>of_decide_eq_true (List.all_eq_true.1 hR m hm)) j t d (by rw [List.getElem?_append_left (gqs h1).1];exact h1) (by rw [List.getElem?_append_left (gqs h2).1];exact h2);rw [Tryz.params4] at hfit;rw [Tryz.params4] at hA hval;obtain ⟨v0,vs0,d0,ds0,p0,q0,hargs,rfl,rfl,h0,r0⟩:=trodAll_cons hA;obtain ⟨v1,vs1,d1,ds1,p1,q1,rfl,rfl,rfl,h1,r1⟩:=trodAll_cons r0;obtain ⟨rfl,rfl,rfl⟩:=trodAll_nil r1;obtain rfl:args=#[v0,v1]:=by cases args;simp_all
 obtain ⟨g0,A0_0,c0_0,A0_1,c0_1,A0_2,c0_2,rfl,hg0⟩:=Dt.open_sig (hval 0 26 v0 rfl rfl) h0 (hfit 0 26 d0 rfl rfl);obtain ⟨m1,A1,c1,A2,c2,rfl,hm1⟩:=Dt.open_mac (hval 1 47 v1 rfl rfl) h1 (hfit 1 47 d1 rfl rfl);have hbk:=Dt.bulk_le hk;rw [Dt.bulk_cons,Dt.bulk_cons,Dt.bulk_nil] at hbk;have hb0:=Dt.bulk_sig h0 ⟨_,_,_,_,_,_,rfl,hg0⟩;have hb1:=Dt.bulk_mac h1 hm1;obtain ⟨_,_,bv,e,hxb,hps,_⟩:=hm1;simp only [List.cons.injEq,Value.slice.injEq,true_and] at e;obtain ⟨⟨rfl,rfl⟩,rfl⟩:=e;refine(El.fitsl_all (w:=W) hg0 hps hxb (by omega) (by omega)).mono fun e W' ⟨he,hb⟩=>⟨_,he,?_⟩;exact law_post laidOut (by kernel_rfl) rfl Tryz.underlying4 rfl rfl hW' hb
noncomputable def laidWorld (os:Os):World:=World.holding Tryz.prog os ⟨#[],#[],[]⟩
theorem laid_met (os:Os):laidMetH Tryz.prog Rows.elabFitsUptoRow.laid ((laidWorld os).forCall (fun _ _=>0) ⟨#[],#[.agg #[.slice none 0 0,.slice none 0 0,.slice none 0 0],.agg #[.string ⟨#[]⟩,.slice none 0 0,.int .i64 0,.int .i8 0,.string ⟨#[]⟩,.slice none 0 0]],[]⟩).memory :=
 laidMetH_of_parts3 (fuel:=8) (laidMet_of_run' 8 (by kernel_rfl) (by kernel_rfl)) (by kernel_rfl) (by kernel_rfl)
theorem reads (os:Os) {H:Type} (enc:TypeId × Value->H):∃ x,DataW.whole enc Tryz.prog ((laidWorld os).forCall (fun _ _=>0) ⟨#[],#[.agg #[.slice none 0 0,.slice none 0 0,.slice none 0 0],.agg #[.string ⟨#[]⟩,.slice none 0 0,.int .i64 0,.int .i8 0,.string ⟨#[]⟩,.slice none 0 0]],[]⟩).memory Tryz.f4.params.toList Rows.elabFitsSpec.vars false #[Value.agg #[.slice none 0 0,.slice none 0 0,.slice none 0 0],.agg #[.string ⟨#[]⟩,.slice none 0 0,.int .i64 0,.int .i8 0,.string ⟨#[]⟩,.slice none 0 0]].toList 8=some ([.agg [.nil,.nil,.nil],.agg [.lit (.string []),.nil,.lit (.int .i64 0),.agg [.lit (.int .i8 0),.lit (.string []),.nil]]],[],x) :=
 ⟨[],by kernel_rfl⟩
theorem lifted (os:Os) (started:os.Started) (H:Type) (enc:TypeId × Value->H) (F:Stop.Interp) :
  ReturnsInHanded {} Tryz.checked os 4 .any ((Rows.OpenSpec.upto Rows.elabFitsSpec).preRow enc Tryz.prog Tryz.f4 Rows.elabFitsUptoRow.domain false Rows.elabFitsUptoRow.laid) (((Rows.OpenSpec.upto Rows.elabFitsSpec).at F).post enc Tryz.prog Tryz.f4 false true false false):=by
 obtain ⟨places,hx⟩:=reads os enc
 refine returnsInHanded_of_row (C:=Tryz.checked) (s:=Rows.OpenSpec.upto Rows.elabFitsSpec) own started (by kernel_rfl) Tryz.func4
  (witness_row_at (enc:=enc) (C:=Tryz.checked) false (laidWorld os) #[.agg #[.slice none 0 0,.slice none 0 0,.slice none 0 0],.agg #[.string ⟨#[]⟩,.slice none 0 0,.int .i64 0,.int .i8 0,.string ⟨#[]⟩,.slice none 0 0]] rfl (by kernel_rfl) (by kernel_rfl) (by kernel_rfl)
   (OpenSpec.preRow_of_cond 8 hx (by kernel_rfl) (fun k hk=>by cases hk;kernel_rfl) (by kernel_rfl) (laid_met os))) ?_
 intro W base args ds gs before hval hW _ hcond hR hL _ _;exact contract H enc W base args ds gs before hval hW hR (hcond _ rfl)
theorem said:Rows.ElabFitsUptoSaid :=
 OpenClaim.holds_of_cond 4 Tryz.f4 rfl rfl rfl rfl rfl rfl rfl ⟨rfl,rfl,rfl,rfl,rfl⟩ rfl rfl rfl rfl rfl (by kernel_rfl) Tryz.func4 (by kernel_rfl)
  (of_decide_eq_true (by kernel_rfl)) (by unfold Func.isWrapper;first | (rw [if_pos (by decide +kernel)];kernel_rfl) | (rw [if_neg (by decide +kernel)];exact⟨rfl,rfl⟩))
  (fun os started H enc _ F=>by rw [OpenClaim.pre_eq_preRow];exact lifted os started H enc F)
end elabFits
end Go.Proofs.YtpmdcckapddchaaGreat
