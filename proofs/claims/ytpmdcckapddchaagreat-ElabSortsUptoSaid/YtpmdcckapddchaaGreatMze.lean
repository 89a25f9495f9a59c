import Derived.Test.YtpmdcckapddchaaGreatShort
import Derived.Test.YtpmdcckapddchaaGreatMza
import Derived.Test.YtpmdcckapddchaaGreatMb
import Derived.Deep.RegionHeld3
import Derived.Test.YtpmdcckapddchaaGreatMd
import Derived.Test.YtpmdcckapddchaaGreatMa
/- merged by wip/merge.py from: ElLeft ElMid ElRow ElDiff ElCore ElAlike ElImp -/
/- Terms put together from the left, and the kinds that are one node. -/
namespace Go.Proofs.YtpmdcckapddchaaGreat.El
open Go.RowKit Go.Maps Go.Proofs.YtpmdcckapddchaaGreat.Dt Go.Proofs.YtpmdcckapddchaaGreat.Sg
def ValsS (F:Fix) (w:World) (L:Option Addr) (l:List V):Prop:=Sta F (fun W=>Lies 2 ValR W L l) w
theorem ValsS.on {F:Fix} {w w':World} {L:Option Addr} {l:List V} (h:ValsS F w L l) (hk:Keeps (onMb F) w w'):ValsS F w' L l:=Sta.on h hk
theorem ValsS.now {F:Fix} {w:World} {L:Option Addr} {l:List V} (h:ValsS F w L l):Lies 2 ValR w L l:=Sta.now h
theorem lies_one {w:World} {b:Nat} {v:V} {t:TypeId} (h:w.heap[b]?=some (.cells #[.int .i64 v.1,.int .i64 v.2] t (0,0))) (hv:VI v):Lies 2 ValR w (some ⟨b,0,none⟩) [v]:=by
 obtain ⟨c0,c1,_⟩:=Bk.c2 h;refine .inr ⟨b,0,rfl,lt_of_block h,fun i x hx=>?_⟩
 match i,hx with
 | 0,hx =>
  obtain rfl:v=x:=by simpa using hx
  refine⟨[.int .i64 v.1,.int .i64 v.2],rfl,fun j u hu=>?_,rfl,hv⟩
  match j,hu with
  | 0,hu=>cases hu;exact c0
  | 1,hu=>cases hu;exact c1
  | j+2,hu=>simp at hu
 | i+1,hx=>simp at hx
theorem lies_two {w:World} {b:Nat} {v u:V} {t:TypeId} (h:w.heap[b]?=some (.cells #[.int .i64 v.1,.int .i64 v.2,.int .i64 u.1,.int .i64 u.2] t (0,0))) (hv:VI v) (hu:VI u):Lies 2 ValR w (some ⟨b,0,none⟩) [v,u]:=by
 obtain ⟨c0,c1,c2,c3,_⟩:=Bk.c4 h;refine .inr ⟨b,0,rfl,lt_of_block h,fun i x hx=>?_⟩
 match i,hx with
 | 0,hx =>
  obtain rfl:v=x:=by simpa using hx
  refine⟨[.int .i64 v.1,.int .i64 v.2],rfl,fun j u hu=>?_,rfl,hv⟩
  match j,hu with
  | 0,hu=>cases hu;exact c0
  | 1,hu=>cases hu;exact c1
  | j+2,hu=>simp at hu
 | 1,hx =>
  obtain rfl:u=x:=by simpa using hx
  refine⟨[.int .i64 u.1,.int .i64 u.2],rfl,fun j u hu=>?_,rfl,hu⟩
  match j,hu with
  | 0,hu=>cases hu;exact c2
  | 1,hu=>cases hu;exact c3
  | j+2,hu=>simp at hu
 | i+2,hx=>simp at hx
theorem I8.of {n:Int} (h0:0≤n) (h1:n≤127):I8 n:=by
 unfold I8;simp [Lit.wf];rw [show IntKind.i8.min=-128 by rfl,show IntKind.i8.max=127 by rfl];omega
set_option maxHeartbeats 1600000 in
theorem not_any {F:Fix} (hF:FixOk F) {w:World} {known:Int} {st:St} {At:Option Addr} {ct:Nat} (hm:Mk F w known st At ct) {L:Option Addr} {l:List V} (cl:Nat) (hl:ValsS F w L l) (h3:l.length≤3) :
  Calls Tryz.prog 121 #[.pointer (some ⟨F.mb,0,none⟩),.slice L l.length cl] w (MkPost F known w st.t At (opM F.c 1 0 l st).1 (opM F.c 1 0 l st).2):=by
 have B1:=kp ((Below.refl w.heap.size w).alloc (Nat.le_refl _) (.cells #[.int .i64 0,.int .i64 0] 69));have RB:=kp (Bk.new w (.cells #[.int .i64 0,.int .i64 0] 69));have hlt:=hm.lt;have HFr:=kp (hm.new_far (Nat.le_refl w.heap.size));have HC:=kp (op_any hF (hm.keep B1.out) 1 0 (I8.of (by decide) (by decide)) v0_VI.1 cl ((hl.on (Keeps.of_below B1.out _)).now) h3);generalize opM F.c 1 0 l st=res at *
 go_enter Tryz.func121,Tryz.ntmps121
 go_upto_region 1 with fail
 generalize w.alloc (.cells #[.int .i64 0,.int .i64 0] 69)=w1 at *;go_wp2_with fail
 refine HC.out.mono ?_;rintro e w7 ⟨rfl,hv,hk7,A7,c7,hm7,ht7⟩;have R7:=kp ((hk7.block w.heap.size (lt_of_block RB.out) (by unfold onMb;omega)).trans RB.out);have M7:=kp hm7;have K7:=kp ((Keeps.of_below B1.out (onMb F)).trans_same hk7);have HT7:=kp (ht7.mono B1.out.size);have HF7:=kp (Far.of_tn HFr.out ht7 (lt_of_block RB.out));unfold valV;clear hk7 hm7 ht7;obtain ⟨r0,r1,rf⟩:=Bk.c2 R7.out;go_wp2_with fail
 refine mk_end (v:=res.1) hF Tryz.results121 M7.out hlt K7.out HT7.out (Nat.le_refl _) HF7.out R7.out ?_ ?_ hv <;> rfl
set_option maxHeartbeats 1600000 in
theorem ite_any {F:Fix} (hF:FixOk F) {w:World} {known:Int} {st:St} {At:Option Addr} {ct:Nat} (hm:Mk F w known st At ct) {L:Option Addr} {l:List V} (cl:Nat) (hl:ValsS F w L l) (h3:l.length≤3) :
  Calls Tryz.prog 128 #[.pointer (some ⟨F.mb,0,none⟩),.slice L l.length cl] w (MkPost F known w st.t At (opM F.c 7 0 l st).1 (opM F.c 7 0 l st).2):=by
 have B1:=kp ((Below.refl w.heap.size w).alloc (Nat.le_refl _) (.cells #[.int .i64 0,.int .i64 0] 69));have RB:=kp (Bk.new w (.cells #[.int .i64 0,.int .i64 0] 69));have hlt:=hm.lt;have HFr:=kp (hm.new_far (Nat.le_refl w.heap.size));have HC:=kp (op_any hF (hm.keep B1.out) 7 0 (I8.of (by decide) (by decide)) v0_VI.1 cl ((hl.on (Keeps.of_below B1.out _)).now) h3);generalize opM F.c 7 0 l st=res at *
 go_enter Tryz.func128,Tryz.ntmps128
 go_upto_region 1 with fail
 generalize w.alloc (.cells #[.int .i64 0,.int .i64 0] 69)=w1 at *;go_wp2_with fail
 refine HC.out.mono ?_;rintro e w7 ⟨rfl,hv,hk7,A7,c7,hm7,ht7⟩;have R7:=kp ((hk7.block w.heap.size (lt_of_block RB.out) (by unfold onMb;omega)).trans RB.out);have M7:=kp hm7;have K7:=kp ((Keeps.of_below B1.out (onMb F)).trans_same hk7);have HT7:=kp (ht7.mono B1.out.size);have HF7:=kp (Far.of_tn HFr.out ht7 (lt_of_block RB.out));unfold valV;clear hk7 hm7 ht7;obtain ⟨r0,r1,rf⟩:=Bk.c2 R7.out;go_wp2_with fail
 refine mk_end (v:=res.1) hF Tryz.results128 M7.out hlt K7.out HT7.out (Nat.le_refl _) HF7.out R7.out ?_ ?_ hv <;> rfl
set_option maxHeartbeats 1600000 in
theorem le_any {F:Fix} (hF:FixOk F) {w:World} {known:Int} {st:St} {At:Option Addr} {ct:Nat} (hm:Mk F w known st At ct) {L:Option Addr} {l:List V} (cl:Nat) (hl:ValsS F w L l) (h3:l.length≤3) :
  Calls Tryz.prog 129 #[.pointer (some ⟨F.mb,0,none⟩),.slice L l.length cl] w (MkPost F known w st.t At (opM F.c 8 0 l st).1 (opM F.c 8 0 l st).2):=by
 have B1:=kp ((Below.refl w.heap.size w).alloc (Nat.le_refl _) (.cells #[.int .i64 0,.int .i64 0] 69));have RB:=kp (Bk.new w (.cells #[.int .i64 0,.int .i64 0] 69));have hlt:=hm.lt;have HFr:=kp (hm.new_far (Nat.le_refl w.heap.size));have HC:=kp (op_any hF (hm.keep B1.out) 8 0 (I8.of (by decide) (by decide)) v0_VI.1 cl ((hl.on (Keeps.of_below B1.out _)).now) h3);generalize opM F.c 8 0 l st=res at *
 go_enter Tryz.func129,Tryz.ntmps129
 go_upto_region 1 with fail
 generalize w.alloc (.cells #[.int .i64 0,.int .i64 0] 69)=w1 at *;go_wp2_with fail
 refine HC.out.mono ?_;rintro e w7 ⟨rfl,hv,hk7,A7,c7,hm7,ht7⟩;have R7:=kp ((hk7.block w.heap.size (lt_of_block RB.out) (by unfold onMb;omega)).trans RB.out);have M7:=kp hm7;have K7:=kp ((Keeps.of_below B1.out (onMb F)).trans_same hk7);have HT7:=kp (ht7.mono B1.out.size);have HF7:=kp (Far.of_tn HFr.out ht7 (lt_of_block RB.out));unfold valV;clear hk7 hm7 ht7;obtain ⟨r0,r1,rf⟩:=Bk.c2 R7.out;go_wp2_with fail
 refine mk_end (v:=res.1) hF Tryz.results129 M7.out hlt K7.out HT7.out (Nat.le_refl _) HF7.out R7.out ?_ ?_ hv <;> rfl
set_option maxHeartbeats 1600000 in
theorem lt_any {F:Fix} (hF:FixOk F) {w:World} {known:Int} {st:St} {At:Option Addr} {ct:Nat} (hm:Mk F w known st At ct) {L:Option Addr} {l:List V} (cl:Nat) (hl:ValsS F w L l) (h3:l.length≤3) :
  Calls Tryz.prog 130 #[.pointer (some ⟨F.mb,0,none⟩),.slice L l.length cl] w (MkPost F known w st.t At (opM F.c 9 0 l st).1 (opM F.c 9 0 l st).2):=by
 have B1:=kp ((Below.refl w.heap.size w).alloc (Nat.le_refl _) (.cells #[.int .i64 0,.int .i64 0] 69));have RB:=kp (Bk.new w (.cells #[.int .i64 0,.int .i64 0] 69));have hlt:=hm.lt;have HFr:=kp (hm.new_far (Nat.le_refl w.heap.size));have HC:=kp (op_any hF (hm.keep B1.out) 9 0 (I8.of (by decide) (by decide)) v0_VI.1 cl ((hl.on (Keeps.of_below B1.out _)).now) h3);generalize opM F.c 9 0 l st=res at *
 go_enter Tryz.func130,Tryz.ntmps130
 go_upto_region 1 with fail
 generalize w.alloc (.cells #[.int .i64 0,.int .i64 0] 69)=w1 at *;go_wp2_with fail
 refine HC.out.mono ?_;rintro e w7 ⟨rfl,hv,hk7,A7,c7,hm7,ht7⟩;have R7:=kp ((hk7.block w.heap.size (lt_of_block RB.out) (by unfold onMb;omega)).trans RB.out);have M7:=kp hm7;have K7:=kp ((Keeps.of_below B1.out (onMb F)).trans_same hk7);have HT7:=kp (ht7.mono B1.out.size);have HF7:=kp (Far.of_tn HFr.out ht7 (lt_of_block RB.out));unfold valV;clear hk7 hm7 ht7;obtain ⟨r0,r1,rf⟩:=Bk.c2 R7.out;go_wp2_with fail
 refine mk_end (v:=res.1) hF Tryz.results130 M7.out hlt K7.out HT7.out (Nat.le_refl _) HF7.out R7.out ?_ ?_ hv <;> rfl
theorem Mk.other2 {F:Fix} (hF:FixOk F) {w:World} {known:Int} {st:St} {At:Option Addr} {ct:Nat} (h:Mk F w known st At ct) {k:Nat} (hk:F.mb < k) (hf:Far k st.t At) (u v:Value):Mk F ((w.setCell ⟨k,0,none⟩ u).setCell ⟨k,1,none⟩ v) known st At ct:=(h.other hF hk hf 0 u).other hF hk hf 1 v
set_option maxRecDepth 100000 in
set_option maxHeartbeats 6400000 in
theorem left_any {F:Fix} (hF:FixOk F) {w:World} {known:Int} {st:St} {At:Option Addr} {ct:Nat} (hm:Mk F w known st At ct) (op:Int) (hop:I8 op) {L:Option Addr} {l:List V} (cl:Nat) (hcl:l.length≤cl) (hl:ValsS F w L l) (h1:l≠[]) (hll:l.length≤8000000000000) :
  Calls Tryz.prog 170 #[.pointer (some ⟨F.mb,0,none⟩),.int .i8 op,.slice L l.length cl] w (MkPost F known w st.t At (headM F.c op l st).1 (headM F.c op l st).2):=by
 obtain ⟨x,r,rfl⟩:=List.exists_cons_of_ne_nil h1;have HS:=kp (show headM F.c op (x :: r) st=leftM F.c op x r st from rfl);have HLn:=kp (show(x :: r).length=r.length+1 from rfl);have hrl:r.length < 8000000000000:=by rw [HLn.out] at hll;omega
 have B1:=kp ((Below.refl w.heap.size w).alloc (Nat.le_refl _) (.cells #[.int .i64 0,.int .i64 0] 69));have R1:=kp (Bk.new w (.cells #[.int .i64 0,.int .i64 0] 69));have hlt:=hm.lt;have HFr:=kp (hm.new_far (Nat.le_refl w.heap.size));have HFv:=kp (hm.new_far (show w.heap.size≤w.heap.size+1 by omega));have M1:=kp (hm.keep B1.out);have Z1:=kp (show(w.alloc (.cells #[.int .i64 0,.int .i64 0] 69)).heap.size=w.heap.size+1 by simp);have HLv:=kp hl;obtain ⟨b,o,rfl,_,_,_,hvx⟩:=val_get hl.now (k:=0) (v:=x) rfl;have HVx:=kp hvx;clear hvx hl hll h1;generalize headM F.c op (x :: r) st=res at *
 go_enter Tryz.func170,Tryz.ntmps170
 go_upto_region 1 with fail
 generalize w.alloc (.cells #[.int .i64 0,.int .i64 0] 69)=w1 at *;obtain ⟨b',o',hA,_,e0,e1,_⟩:=val_get (HLv.out.on (Keeps.of_below B1.out _)).now (k:=0) (v:=x) rfl;simp only [Option.some.injEq,Addr.mk.injEq,and_true] at hA;obtain ⟨rfl,rfl⟩:=hA;rw [Nat.zero_mul,Nat.add_zero] at e0 e1;have V2:=kp (show(w1.alloc (.cells #[.int .i64 x.1,.int .i64 x.2] 69)).heap[w.heap.size+1]?=some (.cells #[.int .i64 x.1,.int .i64 x.2] 69 (0,0)) by have h:=Bk.new w1 (.cells #[.int .i64 x.1,.int .i64 x.2] 69);rwa [Z1.out] at h);have R2:=kp (Bk.keep R1.out (.cells #[.int .i64 x.1,.int .i64 x.2] 69));have M2:=kp (M1.out.keep ((Below.refl w1.heap.size w1).alloc (Nat.le_refl _) (.cells #[.int .i64 x.1,.int .i64 x.2] 69)));have K2:=kp (Keeps.of_below (B1.out.alloc B1.out.size (.cells #[.int .i64 x.1,.int .i64 x.2] 69)) (onMb F));have Z2:=kp (show w.heap.size+2≤(w1.alloc (.cells #[.int .i64 x.1,.int .i64 x.2] 69)).heap.size by simp [Z1.out]);have hpos:(0:Int) < ((x :: r).length:Int):=by rw [HLn.out];omega
 generalize hxn:(x :: r).length=xn at *;obtain rfl:xn=r.length+1:=HLn.out;go_upto_region 2 with fail
 try rw [Z1.out]
 generalize w1.alloc (.cells #[.int .i64 x.1,.int .i64 x.2] 69)=w2 at *;clear e0 e1 hxn;have HCl:=kp hcl
 by_cases hc1:cl=1
 ·subst hc1;obtain rfl:r=[]:=List.length_eq_zero_iff.1 (by omega);replace HS:=kp (show res=(x,st) from HS.out);go_wp2_with fail
  go_loopw [16] (fun i' wr=>i'=.int .i64 0∧w2=wr) (fun _ _=>0)
  case atStart=>exact⟨rfl,rfl⟩
  case round =>
   obtain ⟨rfl,rfl⟩:=hrel;obtain ⟨v0',v1',vf⟩:=Bk.c2 V2.out;obtain ⟨r0,r1,rf⟩:=Bk.c2 R2.out;go_wp2_with fail
   rw [HS.out];refine mk_end (v:=x) hF Tryz.results170 M2.out hlt K2.out (TN.refl _ _ _) (Nat.le_refl _) HFr.out R2.out ?_ ?_ HVx.out <;> rfl
 ·have hcl2:1≤cl:=by omega
  go_wp2_with fail
  go_loopw [16] (fun i' wr=>∃ (k:Nat) (v:V) (st':St) (A':Option Addr) (c':Nat),k≤r.length∧i'=.int .i64 k∧res=leftM F.c op v (r.drop k) st'∧VI v∧Keeps (onMb F) w wr∧Mk F wr known st' A' c'∧TN (w.heap.size+2) st.t At st'.t A'∧w.heap.size+2≤wr.heap.size∧wr.heap[w.heap.size]?=some (.cells #[.int .i64 0,.int .i64 0] 69 (0,0))∧wr.heap[w.heap.size+1]?=some (.cells #[.int .i64 v.1,.int .i64 v.2] 69 (0,0))) (fun i' _=>r.length - (intOf i').toNat)
  case atStart=>exact⟨0,x,st,At,ct,Nat.zero_le _,rfl,HS.out,HVx.out,K2.out,M2.out,TN.refl _ _ _,Z2.out,R2.out,V2.out⟩
  case round =>
   obtain ⟨k,v,st',A',c',hk,rfl,hres,hv,hkk,hmk,htn,hz,hrb,hvb⟩:=hrel;have HRes:=kp hres;have HV:=kp hv;have KR:=kp hkk;have MR:=kp hmk;have TR:=kp htn;have ZR:=kp hz;have RR:=kp hrb;have VR:=kp hvb;clear hres hv hkk hmk htn hz hrb hvb
   by_cases hkl:k < r.length
   ·have hlt2:(k:Int) < (r.length:Int):=by omega
    obtain ⟨y,hy⟩:∃ y,r[k]?=some y:=⟨_,List.getElem?_eq_getElem hkl⟩
    have HDr:=kp (show r.drop k=y :: r.drop (k+1) by
     rw [List.drop_eq_getElem_cons hkl];rw [List.getElem?_eq_getElem hkl] at hy;simp at hy;rw [hy])
    rw [HDr.out] at HRes;replace HRes:=kp (show res=leftM F.c op (opM F.c op 0 [v,y] st').1 (r.drop (k+1)) (opM F.c op 0 [v,y] st').2 from HRes.out);obtain ⟨b2,o2,hA,_,e0,e1,hvy⟩:=val_get (HLv.out.on KR.out).now (k:=k+1) (v:=y) (by simpa using hy);simp only [Option.some.injEq,Addr.mk.injEq,and_true] at hA;obtain ⟨rfl,rfl⟩:=hA;rw [show o+(k+1) * 2=o+2+k * 2 by omega] at e0 e1;have HY:=kp hvy;have BA:=kp ((Below.refl wr.heap.size wr).alloc (Nat.le_refl _) (.cells #[.int .i64 y.1,.int .i64 y.2] 69));have RA:=kp (Bk.keep RR.out (.cells #[.int .i64 y.1,.int .i64 y.2] 69));have VA:=kp (Bk.keep VR.out (.cells #[.int .i64 y.1,.int .i64 y.2] 69));have YA:=kp (Bk.new wr (.cells #[.int .i64 y.1,.int .i64 y.2] 69));clear hvy hy;go_upto_region 5 with fail
    generalize hwa:wr.alloc (.cells #[.int .i64 y.1,.int .i64 y.2] 69)=wa at *;clear hwa e0 e1;have BB:=kp (BA.out.alloc BA.out.size (.cells #[.int .i64 v.1,.int .i64 v.2,.int .i64 y.1,.int .i64 y.2] 69));have RB:=kp (Bk.keep RA.out (.cells #[.int .i64 v.1,.int .i64 v.2,.int .i64 y.1,.int .i64 y.2] 69));have VB:=kp (Bk.keep VA.out (.cells #[.int .i64 v.1,.int .i64 v.2,.int .i64 y.1,.int .i64 y.2] 69));have LB:=kp (lies_two (Bk.new wa (.cells #[.int .i64 v.1,.int .i64 v.2,.int .i64 y.1,.int .i64 y.2] 69)) HV.out HY.out);have HOp:=kp (op_any hF (MR.out.keep BB.out) op 0 hop v0_VI.1 2 LB.out (Nat.le_succ 2));generalize opM F.c op 0 [v,y] st'=pr at *;obtain ⟨pv,ps⟩:=pr;obtain ⟨v0',v1',vf⟩:=Bk.c2 VA.out;obtain ⟨y0',y1',yf⟩:=Bk.c2 YA.out;go_wp2_with fail
    refine HOp.out.mono ?_;rintro e w7 ⟨rfl,hv,hk7,A7,c7,hm7,ht7⟩;have hne0:w.heap.size≠F.mb:=by omega
    have hne1:w.heap.size+1≠F.mb:=by omega
    have R7:=kp ((hk7.block w.heap.size (lt_of_block RB.out) hne0).trans RB.out);have V7:=kp ((hk7.block (w.heap.size+1) (lt_of_block VB.out) hne1).trans VB.out);have Z7:=kp (Nat.le_trans ZR.out (Nat.le_trans BB.out.size hk7.size));have T7:=kp (TR.out.trans ht7 (by have:=ZR.out;have:=BB.out.size;omega));have F7:=kp (Far.of_tn HFv.out T7.out (by omega));have M7:=kp (Mk.other2 hF hm7 (show F.mb < w.heap.size+1 by omega) F7.out (.int .i64 pv.1) (.int .i64 pv.2));have K7:=kp ((((KR.out.trans_same (Keeps.of_below BB.out _)).trans_same hk7).setCell (p:=⟨w.heap.size+1,0,none⟩) (.inr (Nat.le_succ _)) (.int .i64 pv.1)).setCell (p:=⟨w.heap.size+1,1,none⟩) (.inr (Nat.le_succ _)) (.int .i64 pv.2));have V8:=kp (Bk.set_at (Bk.set_at V7.out 0 (.int .i64 pv.1)) 1 (.int .i64 pv.2));have R8:=kp (Bk.apart (Bk.apart R7.out (p:=⟨w.heap.size+1,0,none⟩) (by show w.heap.size≠w.heap.size+1;omega) (.int .i64 pv.1)) (p:=⟨w.heap.size+1,1,none⟩) (by show w.heap.size≠w.heap.size+1;omega) (.int .i64 pv.2));have HPv:=kp hv;unfold valV;clear hk7 hm7 ht7 hv v0' v1' vf y0' y1' yf;obtain ⟨v0',v1',vf⟩:=Bk.c2 V7.out;go_wp2_with fail
    go_roundw
    case rel=>exact⟨k+1,pv,ps,A7,c7,by omega,by go_num,HRes.out,HPv.out,K7.out,M7.out,T7.out,by have:=Z7.out;simpa [World.setCell] using this,R8.out,V8.out⟩
    case measure=>simp [intOf];omega
   ·obtain rfl:k=r.length:=by omega
    replace HRes:=kp (show res=(v,st') by rw [HRes.out,List.drop_length];rfl);have FR:=kp (Far.of_tn HFr.out TR.out (by omega));obtain ⟨v0',v1',vf⟩:=Bk.c2 VR.out;obtain ⟨r0,r1,rf⟩:=Bk.c2 RR.out;go_wp2_with fail
    rw [HRes.out];refine mk_end (v:=v) hF Tryz.results170 MR.out hlt KR.out (TR.out.mono (by omega)) (Nat.le_refl _) FR.out RR.out ?_ ?_ HV.out <;> rfl
theorem Far.call {W:World} {t t':List Node} {At At':Option Addr} {k:Nat} (h:Far k t At) (ht:TN W.heap.size t At t' At') (hk:k < W.heap.size):Far k t' At':=Far.of_tn h ht hk
structure Mid (F:Fix) (known:Int) (w:World) (t:List Node) (At:Option Addr) (rb:Nat) (W:World) (st':St) (A':Option Addr) (c':Nat):Prop where
 maker:Mk F W known st' A' c'
 keeps:Keeps (onMb F) w W
 tn:TN w.heap.size t At st'.t A'
 far:Far rb st'.t A'
 cell:W.heap[rb]?=some (.cells #[.int .i64 0,.int .i64 0] 69 (0,0))
 lt:F.mb < w.heap.size
 le:w.heap.size≤rb
section
variable {F:Fix} {known:Int} {w W W7:World} {st st' s7:St} {t:List Node} {At A' A7:Option Addr} {rb ct c' c7:Nat}
theorem Mid.new (hm:Mk F w known st At ct):Mid F known w st.t At w.heap.size (w.alloc (.cells #[.int .i64 0,.int .i64 0] 69)) st At ct :=
 ⟨hm.keep ((Below.refl _ _).alloc (Nat.le_refl _) _),Keeps.of_below ((Below.refl _ _).alloc (Nat.le_refl _) _) _,TN.refl _ _ _,hm.new_far (Nat.le_refl _),Bk.new w _,hm.lt,Nat.le_refl _⟩
theorem Mid.newOn (hm:Mk F w known st At ct) (hb:Below w.heap.size w W):Mid F known w st.t At W.heap.size (W.alloc (.cells #[.int .i64 0,.int .i64 0] 69)) st At ct :=
 ⟨hm.keep (hb.alloc hb.size _),Keeps.of_below (hb.alloc hb.size _) _,TN.refl _ _ _,hm.new_far hb.size,Bk.new W _,hm.lt,hb.size⟩
theorem Mid.ne (h:Mid F known w t At rb W st' A' c') {k:Nat} (hk:w.heap.size≤k):¬ onMb F k:=by
 have:=h.lt;unfold onMb;omega
theorem Mid.size (h:Mid F known w t At rb W st' A' c'):rb < W.heap.size:=lt_of_block h.cell
theorem Mid.below (h:Mid F known w t At rb W st' A' c') (hb:Below W.heap.size W W7):Mid F known w t At rb W7 st' A' c' :=
 ⟨h.maker.keep hb,h.keeps.trans_same (Keeps.of_below hb _),h.tn,h.far,Bk.on h.cell hb,h.lt,h.le⟩
theorem Mid.alloc (h:Mid F known w t At rb W st' A' c') (o:Obj):Mid F known w t At rb (W.alloc o) st' A' c':=h.below ((Below.refl _ _).alloc (Nat.le_refl _) o)
theorem Mid.drew (h:Mid F known w t At rb W st' A' c'):Mid F known w t At rb W.drew st' A' c':=h.below (Below.refl _ _).drew
theorem Mid.call (h:Mid F known w t At rb W st' A' c') (hk:Keeps (onMb F) W W7) (hm:Mk F W7 known s7 A7 c7) (ht:TN W.heap.size st'.t A' s7.t A7):Mid F known w t At rb W7 s7 A7 c7 :=
 ⟨hm,h.keeps.trans_same hk,h.tn.trans ht h.keeps.size,Far.of_tn h.far ht h.size,(hk.block rb h.size (h.ne h.le)).trans h.cell,h.lt,h.le⟩
theorem Mid.other (hF:FixOk F) (h:Mid F known w t At rb W st' A' c') {k:Nat} (hk:w.heap.size≤k) (hn:k≠rb) (hf:Far k st'.t A') (j:Nat) (u:Value):Mid F known w t At rb (W.setCell ⟨k,j,none⟩ u) st' A' c' :=
 ⟨h.maker.other hF (by have:=h.lt;omega) hf j u,h.keeps.setCell (p:=⟨k,j,none⟩) (.inr hk) u,h.tn,h.far,Bk.apart h.cell (p:=⟨k,j,none⟩) (Ne.symm hn) u,h.lt,h.le⟩
theorem Mid.blk (h:Mid F known w t At rb W st' A' c') (hk:Keeps (onMb F) W W7) {k:Nat} {o:Obj} (hb:W.heap[k]?=some o) (hw:w.heap.size≤k):W7.heap[k]?=some o:=(hk.block k (lt_of_block hb) (h.ne hw)).trans hb
theorem Mid.fresh (h:Mid F known w t At rb W st' A' c') {k:Nat} (hk:W.heap.size≤k):Far k st'.t A':=h.maker.new_far hk
theorem Mid.ret (hF:FixOk F) (h:Mid F known w t At rb W st' A' c') {f:Func} {k:Nat} {v:V} {act:Act} (hf:f.results=#[.cell k 69]) (h2:act.tmps[k]?=some (.pointer (some ⟨rb,0,none⟩))) (hd:act.defers=[]) (hv:VI v) :
  bodyPost Tryz.prog f (MkPost F known w t At v st') .ret act ((W.setCell ⟨rb,0,none⟩ (.int .i64 v.1)).setCell ⟨rb,1,none⟩ (.int .i64 v.2)) :=
 mk_end hF hf h.maker h.lt h.keeps h.tn h.le h.far h.cell h2 hd hv
end
theorem ValsS.below {F:Fix} {w w':World} {L:Option Addr} {l:List V} (h:ValsS F w L l) (hb:Below w.heap.size w w'):ValsS F w' L l:=h.on (Keeps.of_below hb _)
theorem EnvS.below {F:Fix} {w w':World} {p:Option Addr} {env:Env} (h:EnvS F w p env) (hb:Below w.heap.size w w'):EnvS F w' p env:=h.on (Keeps.of_below hb _)
theorem EnvS.now {F:Fix} {w:World} {p:Option Addr} {env:Env} (h:EnvS F w p env):∃ ls:List Env,ls.flatten=env∧EnvR w p ls:=by
 obtain ⟨ls,h1,h2⟩:=h;exact⟨ls,h1,h2.now⟩
end Go.Proofs.YtpmdcckapddchaaGreat.El
/- Rows of values that a maker's function grows. -/
namespace Go.Proofs.YtpmdcckapddchaaGreat.El
open Go.RowKit Go.Maps Go.Proofs.YtpmdcckapddchaaGreat.Dt Go.Proofs.YtpmdcckapddchaaGreat.Sg
def vv (v:V):List Value:=[.int .i64 v.1,.int .i64 v.2]
theorem info_val:(Tryz.prog.info? 69).map (fun i=>(i.zero,i.size,i.bytes))=some (some (.agg #[.int .i64 0,.int .i64 0]),2,16):=by kernel_rfl
structure VRow (base:Nat) (t:List Node) (At:Option Addr) (w:World) (v:Value) (vs:List V):Prop where
 own:w.ownsRow base 69 2 v vs.length (flatV vv vs)
 vi:∀ u ∈ vs,VI u
 far:∀ g,v.ownBlock=some g→Far g t At
section
variable {F:Fix} {base:Nat} {t t7:List Node} {At A7:Option Addr} {w w':World} {v:Value} {vs:List V}
theorem VRow.nil (base:Nat) (t:List Node) (At:Option Addr) (w:World):VRow base t At w (.slice none 0 0) []:=⟨⟨by simp [flatV],.inl ⟨rfl,rfl⟩⟩,fun u hu=>(by cases hu),fun g hg=>(by cases hg)⟩
theorem VRow.shape (h:VRow base t At w v vs):∃ A c,v=.slice A vs.length c∧vs.length≤c∧c≤maxLen:=by
 rcases h.own.2 with⟨h1,h2⟩ | ⟨g,cap,cur,h1,_,_,h2,h3,_⟩
 ·exact⟨none,0,by rw [h2];exact h1,by omega,by unfold maxLen;omega⟩
 ·exact⟨_,cap,h1,h2,h3⟩
theorem VRow.lies {A:Option Addr} {k c:Nat} (h:VRow base t At w (.slice A k c) vs):Lies 2 ValR w A vs:=by
 rcases h.own.2 with⟨h1,h2⟩ | ⟨g,cap,cur,h1,hg,hat,h2,h3,h4,h5⟩
 ·exact .inl (List.length_eq_zero_iff.1 h2)
 ·simp only [Value.slice.injEq] at h1;refine .inr ⟨g,0,h1.1,lt_of_block hat,fun i x hx=>?_⟩;refine⟨vv x,rfl,fun j u hu=>?_,rfl,h.vi x (List.mem_of_getElem? hx)⟩;rw [Nat.zero_add,cell_of_row w g (i * 2+j) cur 69 (0,0) hat];have:=flatV_at (n:=2) (val:=vv) (fun _=>rfl) vs i x hx j u hu;rw [← h5,List.getElem?_take] at this
  split at this
  ·simpa using this
  ·cases this
theorem VRow.keep (h:VRow base t At w v vs) (hk:Keeps (onMb F) w w') (hb:F.mb < base):VRow base t At w' v vs :=
 ⟨owns_keepE h.own hk (fun k hk=>by unfold onMb at hk;omega),h.vi,h.far⟩
theorem VRow.below (h:VRow base t At w v vs) (hb:Below w.heap.size w w'):VRow base t At w' v vs :=
 ⟨owns_keepE h.own (Keeps.of_below hb (fun _=>False)) (fun _ hk=>hk.elim),h.vi,h.far⟩
theorem VRow.call (h:VRow base t At w v vs) (hk:Keeps (onMb F) w w') (ht:TN w.heap.size t At t7 A7) (hb:F.mb < base):VRow base t7 A7 w' v vs :=
 ⟨(h.keep hk hb).own,h.vi,fun g hg=>Far.of_tn (h.far g hg) ht (h.own.lt g hg).2⟩
theorem VRow.valsS {A:Option Addr} {n c:Nat} (h:VRow base t At w (.slice A n c) vs) (hb:F.mb < base):ValsS F w A vs:=fun _ hW=>(h.keep hW hb).lies
theorem VRow.push {w9:World} {v':Value} {u:V} (h:VRow base t At w v vs) (ho:w9.ownsRow base 69 2 v' (vs.length+1) (flatV vv vs ++ vv u)) (hu:VI u) (hat:v'.ownBlock=v.ownBlock∨v'.ownBlock=some w.heap.size) (hn:Far w.heap.size t At):VRow base t At w9 v' (vs ++ [u]):=by
 refine⟨by rw [List.length_append,flatV_snoc];exact ho,fun x hx=>?_,fun g hg=>?_⟩
 ·rcases List.mem_append.1 hx with hx | hx
  ·exact h.vi x hx
  ·obtain rfl:x=u:=by simpa using hx
   exact hu
 ·rcases hat with e | e
  ·exact h.far g (e ▸ hg)
  ·rw [e] at hg;cases hg;exact hn
theorem Mid.grown {known:Int} {w0 W W9:World} {t0:List Node} {At0:Option Addr} {rb:Nat} {st':St} {A':Option Addr} {c':Nat} (hF:FixOk F) (h:Mid F known w0 t0 At0 rb W st' A' c') (hr:VRow base st'.t A' W v vs) (hg:W.grownBy W9 v.ownBlock) (hb:rb < base):Mid F known w0 t0 At0 rb W9 st' A' c':=by
 have hle:=h.le;have hlt:=h.lt;have hk:Keeps (fun k=>v.ownBlock=some k) W W9:=(Keeps.refl _ W).grown hg (fun j hj=>.inl hj);refine⟨h.maker.same hk (fun e=>by have:=(hr.own.lt _ e).1;omega) (fun hn b o e hb=>hr.far b hb hn b o e rfl) (fun k e=>by have:=(hr.own.lt k e).1;have:=hF.lt;omega),?_,h.tn,h.far,(hk.block rb h.size (fun e=>by have:=(hr.own.lt _ e).1;omega)).trans h.cell,h.lt,h.le⟩;exact h.keeps.grown hg (fun j hj=>.inr (by have:=(hr.own.lt j hj).1;omega))
theorem val_cells {W:World} {b:Nat} {u:V} (h:W.heap[b]?=some (.cells #[.int .i64 u.1,.int .i64 u.2] 69 (0,0))):Cells W (some ⟨b,0,none⟩) (vv u):=by
 obtain ⟨c0,c1,_⟩:=Bk.c2 h;refine .inr ⟨b,0,rfl,lt_of_block h,fun j x hx=>?_⟩
 match j,hx with
 | 0,hx=>cases hx;exact c0
 | 1,hx=>cases hx;exact c1
 | j+2,hx=>simp [vv] at hx
theorem push_val {ops:Array Oper} {rest:List Oper} {o:Oper} {a:Act} {Q:Exit→Act→World→Prop} (hgd:o.guard=none) (s x:Operand) (ho:o.op=.call { callee:=.builtin .append,args:=#[s,x],argTypes:=#[126,126] })
  {Ao:Option Addr} {co b:Nat} {u:V} (hs:a.eval s=.slice Ao vs.length co) (h:VRow base t At w (.slice Ao vs.length co) vs) (hx:a.eval x=.slice (some ⟨b,0,none⟩) 1 1) (hb:w.heap[b]?=some (.cells #[.int .i64 u.1,.int .i64 u.2] 69 (0,0))) (hu:VI u) (hlen:vs.length < 8000000000000) (hbase:base≤w.heap.size) (hn:Far w.heap.size t At)
  (hK:∀ A9 c9 w9,VRow base t At w9 (.slice A9 (vs.length+1) c9) (vs ++ [u])→w.grownBy w9 (Value.slice Ao vs.length co).ownBlock→(∀ g,(Value.slice A9 (vs.length+1) c9).ownBlock=some g→(Value.slice Ao vs.length co).ownBlock=some g∨g=w.heap.size)→wpList Tryz.prog ops Q rest (a.put o.dst (.slice A9 (vs.length+1) c9)) w9):wpList Tryz.prog ops Q (o :: rest) a w:=by
 obtain ⟨i0,hi0,z0,z1,z2⟩:=info_parts info_val;refine wpList_append_at hgd s x _ ho base 69 i0 (.agg #[.int .i64 0,.int .i64 0]) 2 16 Tryz.underlying126 hi0 z0 z1 z2 rfl (by decide) (.slice Ao vs.length co) vs.length (flatV vv vs) hs h.own (some ⟨b,0,none⟩) 1 1 (vv u) hx rfl (val_cells hb) (by simp [vv,Value.oneCell']) (by unfold maxLen;omega) (by omega) hbase ?_;intro v' w9 hown hgr hat;have hp:=h.push hown hu hat hn;obtain ⟨A9,c9,hv,_,_⟩:=hp.shape;rw [List.length_append] at hv;subst hv;refine hK A9 c9 w9 hp hgr (fun g hg=>?_);rcases (show(Value.slice A9 (vs.length+1) c9).ownBlock=(Value.slice Ao vs.length co).ownBlock∨(Value.slice A9 (vs.length+1) c9).ownBlock=some w.heap.size from hat) with e | e
 ·exact .inl (e ▸ hg)
 ·rw [e] at hg;cases hg;exact .inr rfl
theorem push_step {ops:Array Oper} {o:Oper} {a:Act} {K:Act→World→Prop} {Q:Exit→Act→World→Prop} {E:Prop} (hgd:o.guard=none) (s x:Operand) (ho:o.op=.call { callee:=.builtin .append,args:=#[s,x],argTypes:=#[126,126] })
  {Ao:Option Addr} {co b:Nat} {u:V} (hs:a.eval s=.slice Ao vs.length co) (h:VRow base t At w (.slice Ao vs.length co) vs) (hx:a.eval x=.slice (some ⟨b,0,none⟩) 1 1) (hb:w.heap[b]?=some (.cells #[.int .i64 u.1,.int .i64 u.2] 69 (0,0))) (hu:VI u) (hlen:vs.length < 8000000000000) (hbase:base≤w.heap.size) (hn:Far w.heap.size t At)
  (hK:∀ A9 c9 w9,VRow base t At w9 (.slice A9 (vs.length+1) c9) (vs ++ [u])→w.grownBy w9 (Value.slice Ao vs.length co).ownBlock→(∀ g,(Value.slice A9 (vs.length+1) c9).ownBlock=some g→(Value.slice Ao vs.length co).ownBlock=some g∨g=w.heap.size)→K (a.put o.dst (.slice A9 (vs.length+1) c9)) w9) :
  if Region.wanted o (yielded ops a.tmps)=true then Oper.wp Tryz.prog o a w K Q else E:=by
 obtain ⟨i0,hi0,z0,z1,z2⟩:=info_parts info_val;refine step_append_at hgd s x _ ho base 69 i0 (.agg #[.int .i64 0,.int .i64 0]) 2 16 Tryz.underlying126 hi0 z0 z1 z2 rfl (by decide) (.slice Ao vs.length co) vs.length (flatV vv vs) hs h.own (some ⟨b,0,none⟩) 1 1 (vv u) hx rfl (val_cells hb) (by simp [vv,Value.oneCell']) (by unfold maxLen;omega) (by omega) hbase ?_;intro v' w9 hown hgr hat;have hp:=h.push hown hu hat hn;obtain ⟨A9,c9,hv,_,_⟩:=hp.shape;rw [List.length_append] at hv;subst hv;refine hK A9 c9 w9 hp hgr (fun g hg=>?_);rcases (show(Value.slice A9 (vs.length+1) c9).ownBlock=(Value.slice Ao vs.length co).ownBlock∨(Value.slice A9 (vs.length+1) c9).ownBlock=some w.heap.size from hat) with e | e
 ·exact .inl (e ▸ hg)
 ·rw [e] at hg;cases hg;exact .inr rfl
def ValsN (base:Nat) (w:World) (L:Option Addr) (vs:List V):Prop:=∀ W,w.heap.size≤W.heap.size→SameIn base w.heap.size w W→Lies 2 ValR W L vs
theorem ValsN.now {L:Option Addr} (h:ValsN base w L vs):Lies 2 ValR w L vs:=h w (Nat.le_refl _) (SameIn.refl _ _ _)
theorem ValsN.on {L:Option Addr} (h:ValsN base w L vs) (hz:w.heap.size≤w'.heap.size) (hs:SameIn base w.heap.size w w'):ValsN base w' L vs:=fun W hW hS=>h W (Nat.le_trans hz hW) (hs.trans (hS.part (Nat.le_refl _) hz))
theorem ValsN.keep {L:Option Addr} (h:ValsN base w L vs) (hk:Keeps (onMb F) w w') (hb:F.mb < base):ValsN base w' L vs:=h.on hk.size (SameIn.keeps hk (Nat.le_refl _) (fun b a _ hs=>by unfold onMb at hs;omega))
theorem ValsN.below {L:Option Addr} (h:ValsN base w L vs) (hb:Below w.heap.size w w'):ValsN base w' L vs:=h.on hb.size (SameIn.of_below hb (Nat.le_refl _))
theorem ValsN.set {L:Option Addr} (h:ValsN base w L vs) {p:Addr} (u:Value) (hp:p.block < base):ValsN base (w.setCell p u) L vs:=h.on (by simp [World.setCell]) (SameIn.setCell _ _ _ _ _ (.inl hp))
theorem ValsN.valsS {L:Option Addr} (h:ValsN base w L vs) (hb:F.mb < base):ValsS F w L vs:=fun _ hW=>(h.keep hW hb).now
theorem VRow.valsN {A:Option Addr} {n c:Nat} (h:VRow base t At w (.slice A n c) vs):ValsN base w A vs:=by
 intro W hz hS;refine VRow.lies (base:=base) (t:=t) (At:=At) (k:=n) (c:=c) ⟨?_,h.vi,h.far⟩;refine⟨h.own.1,?_⟩;rcases h.own.2 with h1 | ⟨g,cap,cur,h1,hg,hat,h2⟩
 ·exact .inl h1
 ·exact .inr ⟨g,cap,cur,h1,hg,(hS g hg (lt_of_block hat)).trans hat,h2⟩
end
end Go.Proofs.YtpmdcckapddchaaGreat.El
/- Differences: is it one, its node, held against a number. -/
namespace Go.Proofs.YtpmdcckapddchaaGreat.El
open Go.RowKit Go.Maps Go.Proofs.YtpmdcckapddchaaGreat.Dt Go.Proofs.YtpmdcckapddchaaGreat.Sg
theorem nth_get {x:Sexp} {i:Nat} (h:i < x.l.length):x.l[i]?=some (nthX x i):=by
 unfold nthX;rw [List.getD_eq_getElem?_getD,List.getElem?_eq_getElem h]
 rfl
theorem nth_cells {w:World} {A:Option Addr} {c:Nat} {x:Sexp} (h:XAt w A c x) {i:Nat} (hi:i < x.l.length):∃ b o A' c',A=some ⟨b,o,none⟩∧b < w.heap.size∧w.cell? ⟨b,o+i * 3,none⟩=some (.int .i8 (nthX x i).kind)∧w.cell? ⟨b,o+i * 3+1,none⟩=some (.string (nthX x i).text)∧w.cell? ⟨b,o+i * 3+2,none⟩=some (.slice A' (nthX x i).l.length c')∧XAt w A' c' (nthX x i) :=
 sexp_cells h.opens.1 (nth_get hi)
set_option maxHeartbeats 1600000 in
theorem minus_any {w:World} {A:Option Addr} {c:Nat} {x:Sexp} (h:XAt w A c x) :
  Calls Tryz.prog 134 #[.agg #[.int .i8 x.kind,.string x.text,.slice A x.l.length c]] w fun e w'=>e=.returned (.bool (minusB x))∧Below w.heap.size w w':=by
 have XB:=kp (Bk.new w (.cells #[.int .i8 x.kind,.string x.text,.slice A x.l.length c] 30));have B1:=kp ((Below.refl w.heap.size w).alloc (Nat.le_refl _) (.cells #[.int .i8 x.kind,.string x.text,.slice A x.l.length c] 30));have HH:=kp (fun W (hW:Below w.heap.size w W)=>head_any (h.on hW));have HS:=kp (show minusB x=(decide (headS x=sMinus) && decide (x.l.length=3) && !isNumX (nthX x 2)) from rfl);have HX:=kp h;clear h;generalize minusB x=res at *
 go_enter Tryz.func134,Tryz.ntmps134
 go_upto_region 1 with fail
 generalize w.alloc (.cells #[.int .i8 x.kind,.string x.text,.slice A x.l.length c] 30)=w1 at *;obtain ⟨q0,q1,q2,qf⟩:=Bk.c3 XB.out;have HH1:=kp (HH.out w1 B1.out)
 by_cases h2:headS x=sMinus
 ·have h2':((headS x).toList == [45])=true:=tl_true h2
  by_cases h3:x.l.length=3
  ·have h3':((x.l.length:Int) == 3)=true:=by rw [h3];rfl
   have h3'':(2:Int) < (x.l.length:Int):=by omega
   replace HS:=kp (show res=!isNumX (nthX x 2) by rw [HS.out,decide_eq_true h2,decide_eq_true h3];rfl);have HN:=kp (fun W (hW:Below w.heap.size w W)=>nth_cells (HX.out.on hW) (i:=2) (by omega));clear h2 h3;generalize nthX x 2=y at *;go_wp2_with fail
   refine HH1.out.mono ?_;rintro e w2 ⟨rfl,hb⟩;have B2:=kp (B1.out.trans (hb.mono B1.out.size));have X2:=kp (Bk.on XB.out hb);clear hb q0 q1 q2 qf;obtain ⟨q0,q1,q2,qf⟩:=Bk.c3 X2.out;obtain ⟨b,o,A',c',rfl,hbl,e0,e1,e2,hr⟩:=HN.out w2 B2.out;have HNu:=kp (isnum_any hr);clear hr;go_wp2_with fail
   refine HNu.out.mono ?_;rintro e w3 ⟨rfl,hb⟩;have B3:=kp (B2.out.trans (hb.mono B2.out.size));clear hb;go_wp2_with fail
   go_ret;exact⟨by rw [HS.out];rfl,B3.out⟩
  ·have h3':((x.l.length:Int) == 3)=false:=by rw [beq_eq_false_iff_ne];omega
   replace HS:=kp (show res=false by rw [HS.out,decide_eq_false h3];simp);clear h2 h3;go_wp2_with fail
   refine HH1.out.mono ?_;rintro e w2 ⟨rfl,hb⟩;have B2:=kp (B1.out.trans (hb.mono B1.out.size));have X2:=kp (Bk.on XB.out hb);clear hb q0 q1 q2 qf;obtain ⟨q0,q1,q2,qf⟩:=Bk.c3 X2.out;go_wp2_with fail
   go_ret;exact⟨by rw [HS.out];rfl,B2.out⟩
 ·have h2':((headS x).toList == [45])=false:=tl_false h2;replace HS:=kp (show res=false by rw [HS.out,decide_eq_false h2];simp);clear h2;go_wp2_with fail
  refine HH1.out.mono ?_;rintro e w2 ⟨rfl,hb⟩;have B2:=kp (B1.out.trans (hb.mono B1.out.size));clear hb;go_wp2_with fail
  go_ret;exact⟨by rw [HS.out];rfl,B2.out⟩
set_option maxHeartbeats 3200000 in
theorem diff_any {F:Fix} (hF:FixOk F) {w:World} {known:Int} {st:St} {At:Option Addr} {ct:Nat} (hm:Mk F w known st At ct) (x y:V) (hx:VI x) (hy:VI y) (n:Int) (hn:I64 n) :
  Calls Tryz.prog 173 #[.pointer (some ⟨F.mb,0,none⟩),.agg #[.int .i64 x.1,.int .i64 x.2],.agg #[.int .i64 y.1,.int .i64 y.2],.int .i64 n] w (MkPost F known w st.t At (diffM F.c x y n st).1 (diffM F.c x y n st).2):=by
 have B2:=kp ((((Below.refl w.heap.size w).alloc (Nat.le_refl _) (.cells #[.int .i64 x.1,.int .i64 x.2] 69)).alloc (by simp) (.cells #[.int .i64 y.1,.int .i64 y.2] 69)));have Z2:=kp (show((w.alloc (.cells #[.int .i64 x.1,.int .i64 x.2] 69)).alloc (.cells #[.int .i64 y.1,.int .i64 y.2] 69)).heap.size=w.heap.size+1+1 by simp);have D1:=kp (Mid.newOn hm B2.out);have X1:=kp (Bk.keep (Bk.keep (Bk.new w (.cells #[.int .i64 x.1,.int .i64 x.2] 69)) (.cells #[.int .i64 y.1,.int .i64 y.2] 69)) (.cells #[.int .i64 0,.int .i64 0] 69));have Y1:=kp (Bk.keep (show((w.alloc (.cells #[.int .i64 x.1,.int .i64 x.2] 69)).alloc (.cells #[.int .i64 y.1,.int .i64 y.2] 69)).heap[w.heap.size+1]?=some (.cells #[.int .i64 y.1,.int .i64 y.2] 69 (0,0)) by have h:=Bk.new (w.alloc (.cells #[.int .i64 x.1,.int .i64 x.2] 69)) (.cells #[.int .i64 y.1,.int .i64 y.2] 69);simpa using h) (.cells #[.int .i64 0,.int .i64 0] 69));rw [Z2.out] at D1;have HS:=kp (show diffM F.c x y n st=if F.c.build=true∧st.e=0∧mayB n=false then(v0,{ st with e:=10 }) else opM F.c 12 n [x,y] st from rfl);have HMy:=kp (fun W=>may_any n hn W);clear hm;generalize diffM F.c x y n st=res at *
 go_enter Tryz.func173,Tryz.ntmps173
 go_upto_region 1 with fail
 generalize ((w.alloc (.cells #[.int .i64 x.1,.int .i64 x.2] 69)).alloc (.cells #[.int .i64 y.1,.int .i64 y.2] 69)).alloc (.cells #[.int .i64 0,.int .i64 0] 69)=w1 at *;obtain ⟨m0,m1,m2,m3,m4,m5,m6,m7,m8,mf⟩:=Bk.c9 D1.out.maker.blk
 by_cases hbad:F.c.build=true∧st.e=0∧mayB n=false
 ·replace HS:=kp (HS.out.trans (if_pos hbad));obtain ⟨hb,he,hmy⟩:=hbad;have HFl:=kp (fail_any hF D1.out.maker 10 (by decide));rw [show failS 10 st={ st with e:=10 } by unfold failS;rw [if_pos he]] at HFl;rw [hb] at m5;have he1:(st.e == 0)=true:=by simp [he]
  rw [hmy] at HMy;clear hb he hmy;go_wp2_with fail
  refine(HMy.out w1).mono ?_;rintro e w2 ⟨rfl,rfl⟩;go_wp2_with fail
  refine HFl.out.mono ?_;rintro e w7 ⟨rfl,hv,hk7,A7,c7,hm7,ht7⟩;have D7:=kp (D1.out.call hk7 hm7 ht7);unfold valV v0;clear hk7 hm7 ht7 m0 m1 m2 m3 m4 m5 m6 m7 m8 mf;obtain ⟨r0,r1,rf⟩:=Bk.c2 D7.out.cell;go_wp2_with fail
  rw [HS.out];refine D7.out.ret (v:=v0) hF Tryz.results173 ?_ ?_ v0_VI <;> rfl
 ·replace HS:=kp (HS.out.trans (if_neg hbad));have DB:=kp (D1.out.alloc (.cells #[.int .i64 x.1,.int .i64 x.2,.int .i64 y.1,.int .i64 y.2] 69));have NB:=kp (Bk.new w1 (.cells #[.int .i64 x.1,.int .i64 x.2,.int .i64 y.1,.int .i64 y.2] 69));have HOp:=kp (op_any hF DB.out.maker 12 n (I8.of (by decide) (by decide)) hn 2 (lies_two NB.out hx hy) (Nat.le_succ 2));rw [← HS.out] at HOp;obtain ⟨x0,x1,xf⟩:=Bk.c2 X1.out;obtain ⟨y0,y1,yf⟩:=Bk.c2 Y1.out
  cases hb:F.c.build with
  | false =>
   rw [hb] at m5;clear hbad hb;go_wp2_with fail
   refine HOp.out.mono ?_;rintro e w7 ⟨rfl,hv,hk7,A7,c7,hm7,ht7⟩;have D7:=kp (DB.out.call hk7 hm7 ht7);unfold valV;clear hk7 hm7 ht7;obtain ⟨r0,r1,rf⟩:=Bk.c2 D7.out.cell;go_wp2_with fail
   refine D7.out.ret (v:=res.1) hF Tryz.results173 ?_ ?_ hv <;> rfl
  | true =>
   rw [hb] at m5
   by_cases he:st.e=0
   ·have he1:(st.e == 0)=true:=by simp [he]
    have hmy:mayB n=true:=by
     cases h:mayB n with
     | true=>rfl
     | false=>exact absurd ⟨hb,he,h⟩ hbad
    rw [hmy] at HMy;clear hbad hb he hmy;go_wp2_with fail
    refine(HMy.out w1).mono ?_;rintro e w2 ⟨rfl,rfl⟩;go_wp2_with fail
    refine HOp.out.mono ?_;rintro e w7 ⟨rfl,hv,hk7,A7,c7,hm7,ht7⟩;have D7:=kp (DB.out.call hk7 hm7 ht7);unfold valV;clear hk7 hm7 ht7;obtain ⟨r0,r1,rf⟩:=Bk.c2 D7.out.cell;go_wp2_with fail
    refine D7.out.ret (v:=res.1) hF Tryz.results173 ?_ ?_ hv <;> rfl
   ·have he1:(st.e == 0)=false:=by simp [he]
    clear hbad hb he;go_wp2_with fail
    refine HOp.out.mono ?_;rintro e w7 ⟨rfl,hv,hk7,A7,c7,hm7,ht7⟩;have D7:=kp (DB.out.call hk7 hm7 ht7);unfold valV;clear hk7 hm7 ht7;obtain ⟨r0,r1,rf⟩:=Bk.c2 D7.out.cell;go_wp2_with fail
    refine D7.out.ret (v:=res.1) hF Tryz.results173 ?_ ?_ hv <;> rfl
set_option maxHeartbeats 1600000 in
theorem and_any {F:Fix} (hF:FixOk F) {w:World} {known:Int} {st:St} {At:Option Addr} {ct:Nat} (hm:Mk F w known st At ct) {L:Option Addr} {l:List V} (cl:Nat) (hcl:l.length≤cl) (hl:ValsS F w L l) (h1:l≠[]) (hll:l.length≤8000000000000) :
  Calls Tryz.prog 122 #[.pointer (some ⟨F.mb,0,none⟩),.slice L l.length cl] w (MkPost F known w st.t At (headM F.c 2 l st).1 (headM F.c 2 l st).2):=by
 have B1:=kp ((Below.refl w.heap.size w).alloc (Nat.le_refl _) (.cells #[.int .i64 0,.int .i64 0] 69));have RB:=kp (Bk.new w (.cells #[.int .i64 0,.int .i64 0] 69));have hlt:=hm.lt;have HFr:=kp (hm.new_far (Nat.le_refl w.heap.size));have HC:=kp (left_any hF (hm.keep B1.out) 2 (I8.of (by decide) (by decide)) cl hcl (hl.on (Keeps.of_below B1.out _)) h1 hll);generalize headM F.c 2 l st=res at *
 go_enter Tryz.func122,Tryz.ntmps122
 go_upto_region 1 with fail
 generalize w.alloc (.cells #[.int .i64 0,.int .i64 0] 69)=w1 at *;go_wp2_with fail
 refine HC.out.mono ?_;rintro e w7 ⟨rfl,hv,hk7,A7,c7,hm7,ht7⟩;have R7:=kp ((hk7.block w.heap.size (lt_of_block RB.out) (by unfold onMb;omega)).trans RB.out);have M7:=kp hm7;have K7:=kp ((Keeps.of_below B1.out (onMb F)).trans_same hk7);have HT7:=kp (ht7.mono B1.out.size);have HF7:=kp (Far.of_tn HFr.out ht7 (lt_of_block RB.out));unfold valV;clear hk7 hm7 ht7;obtain ⟨r0,r1,rf⟩:=Bk.c2 R7.out;go_wp2_with fail
 refine mk_end (v:=res.1) hF Tryz.results122 M7.out hlt K7.out HT7.out (Nat.le_refl _) HF7.out R7.out ?_ ?_ hv <;> rfl
set_option maxHeartbeats 1600000 in
theorem or_any {F:Fix} (hF:FixOk F) {w:World} {known:Int} {st:St} {At:Option Addr} {ct:Nat} (hm:Mk F w known st At ct) {L:Option Addr} {l:List V} (cl:Nat) (hcl:l.length≤cl) (hl:ValsS F w L l) (h1:l≠[]) (hll:l.length≤8000000000000) :
  Calls Tryz.prog 123 #[.pointer (some ⟨F.mb,0,none⟩),.slice L l.length cl] w (MkPost F known w st.t At (headM F.c 3 l st).1 (headM F.c 3 l st).2):=by
 have B1:=kp ((Below.refl w.heap.size w).alloc (Nat.le_refl _) (.cells #[.int .i64 0,.int .i64 0] 69));have RB:=kp (Bk.new w (.cells #[.int .i64 0,.int .i64 0] 69));have hlt:=hm.lt;have HFr:=kp (hm.new_far (Nat.le_refl w.heap.size));have HC:=kp (left_any hF (hm.keep B1.out) 3 (I8.of (by decide) (by decide)) cl hcl (hl.on (Keeps.of_below B1.out _)) h1 hll);generalize headM F.c 3 l st=res at *
 go_enter Tryz.func123,Tryz.ntmps123
 go_upto_region 1 with fail
 generalize w.alloc (.cells #[.int .i64 0,.int .i64 0] 69)=w1 at *;go_wp2_with fail
 refine HC.out.mono ?_;rintro e w7 ⟨rfl,hv,hk7,A7,c7,hm7,ht7⟩;have R7:=kp ((hk7.block w.heap.size (lt_of_block RB.out) (by unfold onMb;omega)).trans RB.out);have M7:=kp hm7;have K7:=kp ((Keeps.of_below B1.out (onMb F)).trans_same hk7);have HT7:=kp (ht7.mono B1.out.size);have HF7:=kp (Far.of_tn HFr.out ht7 (lt_of_block RB.out));unfold valV;clear hk7 hm7 ht7;obtain ⟨r0,r1,rf⟩:=Bk.c2 R7.out;go_wp2_with fail
 refine mk_end (v:=res.1) hF Tryz.results123 M7.out hlt K7.out HT7.out (Nat.le_refl _) HF7.out R7.out ?_ ?_ hv <;> rfl
set_option maxHeartbeats 1600000 in
theorem xor_any {F:Fix} (hF:FixOk F) {w:World} {known:Int} {st:St} {At:Option Addr} {ct:Nat} (hm:Mk F w known st At ct) {L:Option Addr} {l:List V} (cl:Nat) (hcl:l.length≤cl) (hl:ValsS F w L l) (h1:l≠[]) (hll:l.length≤8000000000000) :
  Calls Tryz.prog 124 #[.pointer (some ⟨F.mb,0,none⟩),.slice L l.length cl] w (MkPost F known w st.t At (headM F.c 4 l st).1 (headM F.c 4 l st).2):=by
 have B1:=kp ((Below.refl w.heap.size w).alloc (Nat.le_refl _) (.cells #[.int .i64 0,.int .i64 0] 69));have RB:=kp (Bk.new w (.cells #[.int .i64 0,.int .i64 0] 69));have hlt:=hm.lt;have HFr:=kp (hm.new_far (Nat.le_refl w.heap.size));have HC:=kp (left_any hF (hm.keep B1.out) 4 (I8.of (by decide) (by decide)) cl hcl (hl.on (Keeps.of_below B1.out _)) h1 hll);generalize headM F.c 4 l st=res at *
 go_enter Tryz.func124,Tryz.ntmps124
 go_upto_region 1 with fail
 generalize w.alloc (.cells #[.int .i64 0,.int .i64 0] 69)=w1 at *;go_wp2_with fail
 refine HC.out.mono ?_;rintro e w7 ⟨rfl,hv,hk7,A7,c7,hm7,ht7⟩;have R7:=kp ((hk7.block w.heap.size (lt_of_block RB.out) (by unfold onMb;omega)).trans RB.out);have M7:=kp hm7;have K7:=kp ((Keeps.of_below B1.out (onMb F)).trans_same hk7);have HT7:=kp (ht7.mono B1.out.size);have HF7:=kp (Far.of_tn HFr.out ht7 (lt_of_block RB.out));unfold valV;clear hk7 hm7 ht7;obtain ⟨r0,r1,rf⟩:=Bk.c2 R7.out;go_wp2_with fail
 refine mk_end (v:=res.1) hF Tryz.results124 M7.out hlt K7.out HT7.out (Nat.le_refl _) HF7.out R7.out ?_ ?_ hv <;> rfl
set_option maxHeartbeats 1600000 in
theorem ge_any {F:Fix} (hF:FixOk F) {w:World} {known:Int} {st:St} {At:Option Addr} {ct:Nat} (hm:Mk F w known st At ct) {L:Option Addr} {x y:V} (cl:Nat) (hl:ValsS F w L [x,y]) :
  Calls Tryz.prog 131 #[.pointer (some ⟨F.mb,0,none⟩),.slice L 2 cl] w (MkPost F known w st.t At (opM F.c 8 0 [y,x] st).1 (opM F.c 8 0 [y,x] st).2):=by
 have B1:=kp ((Below.refl w.heap.size w).alloc (Nat.le_refl _) (.cells #[.int .i64 0,.int .i64 0] 69));have RB:=kp (Bk.new w (.cells #[.int .i64 0,.int .i64 0] 69));have hlt:=hm.lt;have HFr:=kp (hm.new_far (Nat.le_refl w.heap.size));obtain ⟨b,o,rfl,_,_,_,hx⟩:=val_get hl.now (k:=0) (v:=x) rfl;have hy:VI y:=lies_vi hl.now y (by simp);have HX:=kp hx;have HY:=kp hy
 have HLv:=kp (fun W (hW:Keeps (onMb F) w W)=>show(W.cell? ⟨b,o,none⟩=some (.int .i64 x.1)∧W.cell? ⟨b,o+1,none⟩=some (.int .i64 x.2))∧W.cell? ⟨b,o+2,none⟩=some (.int .i64 y.1)∧W.cell? ⟨b,o+3,none⟩=some (.int .i64 y.2) by
  obtain ⟨b1,o1,hA,_,e0,e1,_⟩:=val_get (hl.on hW).now (k:=0) (v:=x) rfl;obtain ⟨b2,o2,hA2,_,e2,e3,_⟩:=val_get (hl.on hW).now (k:=1) (v:=y) rfl;simp only [Option.some.injEq,Addr.mk.injEq,and_true] at hA hA2;obtain ⟨rfl,rfl⟩:=hA;obtain ⟨rfl,rfl⟩:=hA2;rw [Nat.zero_mul,Nat.add_zero] at e0 e1;exact⟨⟨e0,e1⟩,e2,e3⟩)
 clear hx hy;have HC:=kp (fun(W:World) (b':Nat) (hW:Below w.heap.size w W) (hb:W.heap[b']?=some (.cells #[.int .i64 y.1,.int .i64 y.2,.int .i64 x.1,.int .i64 x.2] 69 (0,0)))=>op_any hF (hm.keep hW) 8 0 (I8.of (by decide) (by decide)) v0_VI.1 2 (lies_two hb HY.out HX.out) (Nat.le_succ 2));generalize opM F.c 8 0 [y,x] st=res at *
 go_enter Tryz.func131,Tryz.ntmps131
 go_upto_region 1 with fail
 generalize w.alloc (.cells #[.int .i64 0,.int .i64 0] 69)=w1 at *;have B0:=kp (Below.refl w1.heap.size w1).drew;have K0:=kp (Keeps.of_below (B1.out.trans (B0.out.mono B1.out.size)) (onMb F));have KB:=kp (K0.out.alloc (.cells #[.int .i64 y.1,.int .i64 y.2,.int .i64 x.1,.int .i64 x.2] 69));have BB:=kp (B0.out.alloc B0.out.size (.cells #[.int .i64 y.1,.int .i64 y.2,.int .i64 x.1,.int .i64 x.2] 69));have NB:=kp (show(w1.drew.alloc (.cells #[.int .i64 y.1,.int .i64 y.2,.int .i64 x.1,.int .i64 x.2] 69)).heap[w1.heap.size]?=some (.cells #[.int .i64 y.1,.int .i64 y.2,.int .i64 x.1,.int .i64 x.2] 69 (0,0)) from Bk.new w1.drew _);have HCall:=kp (HC.out _ _ (B1.out.trans (BB.out.mono B1.out.size)) NB.out);refine wp_region_held_drew (S:=fun W=>Keeps (onMb F) w W) (by kernel_rfl) (K0.out) (fun hHeld=>?_);refine plz [0,1,2,3,4,5,6] ?_;iterate 7 (refine tnz (v:=?_) ?_ ?_;rotate_left;(focus first | ((intro w hSw;go_simp;try with_reducible rfl);done) | ((intro w hSw;(obtain ⟨⟨e0,e1⟩,e2,e3⟩:=HLv.out _ hSw;go_simp;try with_reducible rfl));done));try simp only [pt])
 refine pzz ?_;refine rd 7 fun K hK=>?_;go_simp;refine hK.out _ _ (KB.out) (fun hHeld=>?_);clear hK K;try simp only [pt]
 have hne0:w.heap.size≠F.mb:=by omega
 have RBB:=kp (Bk.on RB.out BB.out);refine rd 8 fun K hK=>?_;go_simp;refine HCall.out.mono ?_;rintro e w7 ⟨rfl,hv,hk7,A7,c7,hm7,ht7⟩;have R7:=kp ((hk7.block w.heap.size (lt_of_block RBB.out) hne0).trans RBB.out);have M7:=kp hm7;have K7:=kp (KB.out.trans_same hk7);have HT7:=kp (ht7.mono KB.out.size);have HF7:=kp (Far.of_tn HFr.out ht7 (lt_of_block RBB.out));unfold valV;clear hk7 hm7 ht7;refine hK.out _ _ K7.out (fun hHeld=>?_);clear hK K;try simp only [pt]
 obtain ⟨r0,r1,rf⟩:=Bk.c2 R7.out;have K8:=kp ((K7.out.setCell (p:=⟨w.heap.size,0,none⟩) (.inr (Nat.le_refl _)) (.int .i64 res.1.1)).setCell (p:=⟨w.heap.size,1,none⟩) (.inr (Nat.le_refl _)) (.int .i64 res.1.2));refine rd 9 fun K hK=>?_;go_simp;refine hK.out _ _ (K8.out) (fun hHeld=>?_);clear hK K;try simp only [pt]
 refine dnz ?_;go_wp2_with fail
 refine mk_end (v:=res.1) hF Tryz.results131 M7.out hlt K7.out HT7.out (Nat.le_refl _) HF7.out R7.out ?_ ?_ hv <;> rfl
set_option maxHeartbeats 1600000 in
theorem gt_any {F:Fix} (hF:FixOk F) {w:World} {known:Int} {st:St} {At:Option Addr} {ct:Nat} (hm:Mk F w known st At ct) {L:Option Addr} {x y:V} (cl:Nat) (hl:ValsS F w L [x,y]) :
  Calls Tryz.prog 132 #[.pointer (some ⟨F.mb,0,none⟩),.slice L 2 cl] w (MkPost F known w st.t At (opM F.c 9 0 [y,x] st).1 (opM F.c 9 0 [y,x] st).2):=by
 have B1:=kp ((Below.refl w.heap.size w).alloc (Nat.le_refl _) (.cells #[.int .i64 0,.int .i64 0] 69));have RB:=kp (Bk.new w (.cells #[.int .i64 0,.int .i64 0] 69));have hlt:=hm.lt;have HFr:=kp (hm.new_far (Nat.le_refl w.heap.size));obtain ⟨b,o,rfl,_,_,_,hx⟩:=val_get hl.now (k:=0) (v:=x) rfl;have hy:VI y:=lies_vi hl.now y (by simp);have HX:=kp hx;have HY:=kp hy
 have HLv:=kp (fun W (hW:Keeps (onMb F) w W)=>show(W.cell? ⟨b,o,none⟩=some (.int .i64 x.1)∧W.cell? ⟨b,o+1,none⟩=some (.int .i64 x.2))∧W.cell? ⟨b,o+2,none⟩=some (.int .i64 y.1)∧W.cell? ⟨b,o+3,none⟩=some (.int .i64 y.2) by
  obtain ⟨b1,o1,hA,_,e0,e1,_⟩:=val_get (hl.on hW).now (k:=0) (v:=x) rfl;obtain ⟨b2,o2,hA2,_,e2,e3,_⟩:=val_get (hl.on hW).now (k:=1) (v:=y) rfl;simp only [Option.some.injEq,Addr.mk.injEq,and_true] at hA hA2;obtain ⟨rfl,rfl⟩:=hA;obtain ⟨rfl,rfl⟩:=hA2;rw [Nat.zero_mul,Nat.add_zero] at e0 e1;exact⟨⟨e0,e1⟩,e2,e3⟩)
 clear hx hy;have HC:=kp (fun(W:World) (b':Nat) (hW:Below w.heap.size w W) (hb:W.heap[b']?=some (.cells #[.int .i64 y.1,.int .i64 y.2,.int .i64 x.1,.int .i64 x.2] 69 (0,0)))=>op_any hF (hm.keep hW) 9 0 (I8.of (by decide) (by decide)) v0_VI.1 2 (lies_two hb HY.out HX.out) (Nat.le_succ 2));generalize opM F.c 9 0 [y,x] st=res at *
 go_enter Tryz.func132,Tryz.ntmps132
 go_upto_region 1 with fail
 generalize w.alloc (.cells #[.int .i64 0,.int .i64 0] 69)=w1 at *;have B0:=kp (Below.refl w1.heap.size w1).drew;have K0:=kp (Keeps.of_below (B1.out.trans (B0.out.mono B1.out.size)) (onMb F));have KB:=kp (K0.out.alloc (.cells #[.int .i64 y.1,.int .i64 y.2,.int .i64 x.1,.int .i64 x.2] 69));have BB:=kp (B0.out.alloc B0.out.size (.cells #[.int .i64 y.1,.int .i64 y.2,.int .i64 x.1,.int .i64 x.2] 69));have NB:=kp (show(w1.drew.alloc (.cells #[.int .i64 y.1,.int .i64 y.2,.int .i64 x.1,.int .i64 x.2] 69)).heap[w1.heap.size]?=some (.cells #[.int .i64 y.1,.int .i64 y.2,.int .i64 x.1,.int .i64 x.2] 69 (0,0)) from Bk.new w1.drew _);have HCall:=kp (HC.out _ _ (B1.out.trans (BB.out.mono B1.out.size)) NB.out);refine wp_region_held_drew (S:=fun W=>Keeps (onMb F) w W) (by kernel_rfl) (K0.out) (fun hHeld=>?_);refine plz [0,1,2,3,4,5,6] ?_;iterate 7 (refine tnz (v:=?_) ?_ ?_;rotate_left;(focus first | ((intro w hSw;go_simp;try with_reducible rfl);done) | ((intro w hSw;(obtain ⟨⟨e0,e1⟩,e2,e3⟩:=HLv.out _ hSw;go_simp;try with_reducible rfl));done));try simp only [pt])
 refine pzz ?_;refine rd 7 fun K hK=>?_;go_simp;refine hK.out _ _ (KB.out) (fun hHeld=>?_);clear hK K;try simp only [pt]
 have hne0:w.heap.size≠F.mb:=by omega
 have RBB:=kp (Bk.on RB.out BB.out);refine rd 8 fun K hK=>?_;go_simp;refine HCall.out.mono ?_;rintro e w7 ⟨rfl,hv,hk7,A7,c7,hm7,ht7⟩;have R7:=kp ((hk7.block w.heap.size (lt_of_block RBB.out) hne0).trans RBB.out);have M7:=kp hm7;have K7:=kp (KB.out.trans_same hk7);have HT7:=kp (ht7.mono KB.out.size);have HF7:=kp (Far.of_tn HFr.out ht7 (lt_of_block RBB.out));unfold valV;clear hk7 hm7 ht7;refine hK.out _ _ K7.out (fun hHeld=>?_);clear hK K;try simp only [pt]
 obtain ⟨r0,r1,rf⟩:=Bk.c2 R7.out;have K8:=kp ((K7.out.setCell (p:=⟨w.heap.size,0,none⟩) (.inr (Nat.le_refl _)) (.int .i64 res.1.1)).setCell (p:=⟨w.heap.size,1,none⟩) (.inr (Nat.le_refl _)) (.int .i64 res.1.2));refine rd 9 fun K hK=>?_;go_simp;refine hK.out _ _ (K8.out) (fun hHeld=>?_);clear hK K;try simp only [pt]
 refine dnz ?_;go_wp2_with fail
 refine mk_end (v:=res.1) hF Tryz.results132 M7.out hlt K7.out HT7.out (Nat.le_refl _) HF7.out R7.out ?_ ?_ hv <;> rfl
set_option maxHeartbeats 1600000 in
theorem alike1_any {w:World} {bb n c:Nat} {L:Option Addr} {l:List V} {x:V} (v:V) (hb:w.heap[bb]?=some (.cells #[.slice L n c] 126 (0,0))) (hl:Lies 2 ValR w L l) (hx:l[0]?=some x) (hn:0 < n) :
  Calls Tryz.prog 192 #[.agg #[.int .i64 v.1,.int .i64 v.2],.pointer (some ⟨bb,0,none⟩)] w fun e w'=>e=.returned (.bool (v.1 != x.1))∧Below w.heap.size w w':=by
 have B1:=kp ((Below.refl w.heap.size w).alloc (Nat.le_refl _) (.cells #[.int .i64 v.1,.int .i64 v.2] 69));have N1:=kp (Bk.new w (.cells #[.int .i64 v.1,.int .i64 v.2] 69));have HBk:=kp (Bk.on hb B1.out);have HLv:=kp (hl.on ValR.lasts B1.out);obtain ⟨b,o,rfl,_,_,_,_⟩:=val_get hl hx;have hn2:(0:Int) < (n:Int):=by omega
 clear hb hl
 go_enter Tryz.func192,Tryz.ntmps192
 go_upto_region 1 with fail
 generalize w.alloc (.cells #[.int .i64 v.1,.int .i64 v.2] 69)=w1 at *;have B0:=kp (Below.refl w1.heap.size w1).drew
 have HR:=kp (fun W (hW:Below w1.heap.size w1 W)=>show W.cell? ⟨b,o,none⟩=some (.int .i64 x.1) by
  obtain ⟨b1,o1,hA,_,e0,e1,_⟩:=val_get (HLv.out.on ValR.lasts hW) hx;simp only [Option.some.injEq,Addr.mk.injEq,and_true] at hA;obtain ⟨rfl,rfl⟩:=hA
  rwa [Nat.zero_mul,Nat.add_zero] at e0)
 refine wp_region_held_drew (S:=fun W=>Below w1.heap.size w1 W) (by kernel_rfl) (B0.out) (fun hHeld=>?_);refine plz [0,1,2,3,4,5,6,7] ?_;iterate 8 (refine tnz (v:=?_) ?_ ?_;rotate_left;(focus first | ((intro w hSw;go_simp;try with_reducible rfl);done) | ((intro w hSw;(obtain ⟨v0',v1',vf⟩:=Bk.c2 (Bk.on N1.out hSw);go_simp;try with_reducible rfl));done) | ((intro w hSw;(obtain ⟨v0',vf⟩:=Bk.c1 (Bk.on HBk.out hSw);go_simp;try with_reducible rfl));done) | ((intro w hSw;(have e0:=HR.out _ hSw;go_simp;try with_reducible rfl));done));try simp only [pt])
 refine pzz ?_;refine dnz ?_;go_wp2_with fail
 go_ret;exact⟨rfl,B1.out.trans (B0.out.mono B1.out.size)⟩
set_option maxHeartbeats 3200000 in
theorem idx_vals {w:World} {bb c:Nat} {L:Option Addr} {l:List V} {x:V} (hb:w.heap[bb]?=some (.cells #[.slice L l.length c] 126 (0,0))) (hl:Lies 2 ValR w L l) (hx:l[0]?=some x) (hlen:l.length≤8000000000000) :
  Calls Tryz.prog 195 #[.slice L l.length c,.func (Fn.func 192) #[] #[.pointer (some ⟨bb,0,none⟩)]] w fun e w'=>IdxPost (l.any fun v=>v.1 != x.1) e∧Below w.heap.size w w':=by
 have HBb:=kp hb;have HL:=kp hl;have HX:=kp hx;have hpos:0 < l.length:=by have:=(List.getElem?_eq_some_iff.1 hx).1;exact this
 clear hb hl hx
 go_enter Tryz.func195,Tryz.ntmps195
 go_wp2_with fail
 go_loopw [8] (fun v wr=>∃ k:Nat,k≤l.length∧v=.int .i64 k∧(l.take k).any (fun v=>v.1 != x.1)=false∧Below w.heap.size w wr) (fun v _=>l.length - (intOf v).toNat)
 case atStart=>exact⟨0,Nat.zero_le _,rfl,rfl,Below.refl _ _⟩
 case round =>
  obtain ⟨k,hk,rfl,hn,hbl⟩:=hrel;have HN:=kp hn;have HB:=kp hbl;clear hn hbl
  by_cases hlt:k < l.length
  ·have hlt2:(k:Int) < (l.length:Int):=by omega
   obtain ⟨y,hy⟩:∃ y,l[k]?=some y:=⟨_,List.getElem?_eq_getElem hlt⟩;obtain ⟨b,o,rfl,_,e0,e1,_⟩:=val_get (HL.out.on ValR.lasts HB.out) hy;have HC:=kp (alike1_any y (Bk.on HBb.out HB.out) (HL.out.on ValR.lasts HB.out) HX.out hpos);have HY:=kp hy;clear hy
   cases hq:y.1 != x.1 with
   | false =>
    have HQ:=kp (show(l.take (k+1)).any (fun v=>v.1 != x.1)=false by rw [List.take_add_one,HY.out,List.any_append,HN.out];simpa using hq);rw [hq] at HC;clear hq;go_wp2_with fail
    refine HC.out.mono ?_;rintro e w2 ⟨rfl,hb2⟩;have HB2:=kp (HB.out.trans (hb2.mono HB.out.size));clear hb2;go_wp2_with fail
    go_roundw
    case rel=>exact⟨k+1,by omega,by go_num,HQ.out,HB2.out⟩
    case measure=>simp [intOf];omega
   | true =>
    have HQ:=kp (show l.any (fun v=>v.1 != x.1)=true by rw [List.any_eq_true];exact⟨y,List.mem_of_getElem? HY.out,hq⟩);rw [hq] at HC;clear hq;go_wp2_with fail
    refine HC.out.mono ?_;rintro e w2 ⟨rfl,hb2⟩;have HB2:=kp (HB.out.trans (hb2.mono HB.out.size));clear hb2;go_wp2_with fail
    go_ret;exact⟨⟨k,rfl,by rw [HQ.out];exact decide_eq_true (by omega)⟩,HB2.out⟩
  ·obtain rfl:k=l.length:=by omega
   have HQ:=kp (show l.any (fun v=>v.1 != x.1)=false by have h:=HN.out;rwa [List.take_length] at h);go_wp2_with fail
   go_ret;exact⟨⟨-1,rfl,by rw [HQ.out];exact decide_eq_false (by omega)⟩,HB.out⟩
set_option maxHeartbeats 800000 in
theorem contains_vals {w:World} {A:Option Addr} {n c:Nat} {q:Bool} {fv:Value} (h:Calls Tryz.prog 195 #[.slice A n c,fv] w fun e w'=>IdxPost q e∧Below w.heap.size w w') :
  Calls Tryz.prog 191 #[.slice A n c,fv] w fun e w'=>e=.returned (.bool q)∧Below w.heap.size w w':=by
 have HI:=kp h;clear h
 go_enter Tryz.func191,Tryz.ntmps191
 go_wp2_with fail
 refine HI.out.mono ?_;rintro e w1 ⟨⟨r,rfl,hr⟩,hb⟩;have HR:=kp hr;have HB:=kp hb;clear hr hb;go_wp2_with fail
 go_ret;exact⟨ret_bool HR.out,HB.out⟩
theorem elike_eq {l:List V} {x:V} (hx:l[0]?=some x):(l.any fun v=>v.1 != x.1)=!alikeB l:=by
 unfold alikeB;rw [List.getD_eq_getElem?_getD,hx,List.any_eq_not_all_not];simp only [Option.getD_some,bne,Bool.not_not]
def alikeS (l:List V) (st:St):St:=if alikeB l then st else failS 33 st
def MbPost (F:Fix) (known:Int) (w:World) (t:List Node) (At:Option Addr) (b:Bool) (st':St) (e:Ending) (w':World):Prop :=
 e=.returned (.bool b)∧Keeps (onMb F) w w'∧∃ A' c',Mk F w' known st' A' c'∧TN w.heap.size t At st'.t A'
set_option maxHeartbeats 3200000 in
theorem elike_any {F:Fix} (hF:FixOk F) {w:World} {known:Int} {st:St} {At:Option Addr} {ct:Nat} (hm:Mk F w known st At ct) {L:Option Addr} {l:List V} (cl:Nat) (hl:ValsS F w L l) (h1:l≠[]) (hll:l.length≤8000000000000) :
  Calls Tryz.prog 171 #[.pointer (some ⟨F.mb,0,none⟩),.slice L l.length cl] w (MbPost F known w st.t At (decide ((alikeS l st).e=0)) (alikeS l st)):=by
 obtain ⟨x,hx⟩:∃ x,l[0]?=some x:=⟨_,List.getElem?_eq_getElem (List.length_pos_iff.2 h1)⟩;have B1:=kp ((Below.refl w.heap.size w).alloc (Nat.le_refl _) (.cells #[.slice L l.length cl] 126));have N1:=kp (Bk.new w (.cells #[.slice L l.length cl] 126));have M1:=kp (hm.keep B1.out);have HI:=kp (contains_vals (idx_vals N1.out (hl.below B1.out).now hx hll));rw [elike_eq hx] at HI;have HS:=kp (show alikeS l st=if alikeB l then st else failS 33 st from rfl);have HF:=kp (fun(W:World) (h:Below w.heap.size w W)=>fail_any hF (hm.keep h) 33 (by decide));clear hm hl hx;generalize alikeS l st=st1 at *;generalize alikeB l=al at *
 go_enter Tryz.func171,Tryz.ntmps171
 go_upto_region 1 with fail
 generalize w.alloc (.cells #[.slice L l.length cl] 126)=w1 at *;obtain ⟨c0,cf⟩:=Bk.c1 N1.out;go_wp2_with fail
 refine HI.out.mono ?_;rintro e w2 ⟨rfl,hb2⟩;have B2:=kp (B1.out.trans (hb2.mono B1.out.size));have M2:=kp (M1.out.keep hb2);clear hb2
 cases al with
 | true =>
  replace HS:=kp (show st1=st from HS.out);obtain ⟨m0,m1,m2,m3,m4,m5,m6,m7,m8,mf⟩:=Bk.c9 M2.out.blk;go_wp2_with fail
  go_ret;exact⟨by rw [HS.out];congr,Keeps.of_below B2.out _,At,ct,by rw [HS.out];exact M2.out,by rw [HS.out];exact TN.refl _ _ _⟩
 | false =>
  replace HS:=kp (show st1=failS 33 st from HS.out);have HF2:=kp (HF.out _ B2.out);go_wp2_with fail
  refine HF2.out.mono ?_;rintro e w7 ⟨rfl,hv,hk7,A7,c7,hm7,ht7⟩;have K7:=kp ((Keeps.of_below B2.out (onMb F)).trans_same hk7);have T7:=kp (ht7.mono B2.out.size);have M7:=kp hm7;rw [← HS.out] at M7 T7;obtain ⟨m0,m1,m2,m3,m4,m5,m6,m7,m8,mf⟩:=Bk.c9 M7.out.blk;clear hk7 hm7 ht7 hv;go_wp2_with fail
  go_ret;exact⟨by congr,K7.out,A7,c7,M7.out,T7.out⟩
theorem take_rev {l:List V} {k:Nat} {y:V} (hy:l[k]?=some y):(l.take (k+1)).reverse=y :: (l.take k).reverse:=by
 rw [List.take_add_one,hy];simp
set_option maxRecDepth 100000 in
set_option maxHeartbeats 6400000 in
theorem implies_any {F:Fix} (hF:FixOk F) {w:World} {known:Int} {st:St} {At:Option Addr} {ct:Nat} (hm:Mk F w known st At ct) {L:Option Addr} {l:List V} (cl:Nat) (hl:ValsS F w L l) (h1:l≠[]) (hll:l.length≤8000000000000) :
  Calls Tryz.prog 125 #[.pointer (some ⟨F.mb,0,none⟩),.slice L l.length cl] w (MkPost F known w st.t At (impM F.c (l.reverse.getD 0 v0) l.reverse.tail st).1 (impM F.c (l.reverse.getD 0 v0) l.reverse.tail st).2):=by
 obtain ⟨q,hq⟩:∃ q,l.length=q+1:=⟨l.length - 1,by have:=List.length_pos_iff.2 h1;omega⟩;obtain ⟨x,hx⟩:∃ x,l[q]?=some x:=⟨_,List.getElem?_eq_getElem (by omega)⟩;have hrev:l.reverse=x :: (l.take q).reverse:=by rw [← take_rev hx,← hq,List.take_length]
 have HS:=kp (show impM F.c (l.reverse.getD 0 v0) l.reverse.tail st=impM F.c x (l.take q).reverse st by rw [hrev];rfl);have B1:=kp ((Below.refl w.heap.size w).alloc (Nat.le_refl _) (.cells #[.int .i64 0,.int .i64 0] 69));have R1:=kp (Bk.new w (.cells #[.int .i64 0,.int .i64 0] 69));have hlt:=hm.lt;have HFr:=kp (hm.new_far (Nat.le_refl w.heap.size));have HFv:=kp (hm.new_far (show w.heap.size≤w.heap.size+1 by omega));have M1:=kp (hm.keep B1.out);have Z1:=kp (show(w.alloc (.cells #[.int .i64 0,.int .i64 0] 69)).heap.size=w.heap.size+1 by simp);have HLv:=kp hl;obtain ⟨b,o,rfl,_,_,_,hvx⟩:=val_get hl.now hx;have HVx:=kp hvx;have HX:=kp hx;clear hvx hl h1 hrev hx;generalize impM F.c (l.reverse.getD 0 v0) l.reverse.tail st=res at *;rw [hq]
 go_enter Tryz.func125,Tryz.ntmps125
 go_upto_region 1 with fail
 generalize w.alloc (.cells #[.int .i64 0,.int .i64 0] 69)=w1 at *;obtain ⟨b',o',hA,_,e0,e1,_⟩:=val_get (HLv.out.on (Keeps.of_below B1.out _)).now HX.out;simp only [Option.some.injEq,Addr.mk.injEq,and_true] at hA;obtain ⟨rfl,rfl⟩:=hA;have V2:=kp (show(w1.alloc (.cells #[.int .i64 x.1,.int .i64 x.2] 69)).heap[w.heap.size+1]?=some (.cells #[.int .i64 x.1,.int .i64 x.2] 69 (0,0)) by have h:=Bk.new w1 (.cells #[.int .i64 x.1,.int .i64 x.2] 69);rwa [Z1.out] at h);have R2:=kp (Bk.keep R1.out (.cells #[.int .i64 x.1,.int .i64 x.2] 69));have M2:=kp (M1.out.keep ((Below.refl w1.heap.size w1).alloc (Nat.le_refl _) (.cells #[.int .i64 x.1,.int .i64 x.2] 69)));have K2:=kp (Keeps.of_below (B1.out.alloc B1.out.size (.cells #[.int .i64 x.1,.int .i64 x.2] 69)) (onMb F));have Z2:=kp (show w.heap.size+2≤(w1.alloc (.cells #[.int .i64 x.1,.int .i64 x.2] 69)).heap.size by simp [Z1.out]);have hq0:0≤(q:Int):=by omega
 have hq1:(q:Int) < 8000000000000:=by omega
 go_upto_region 2 with fail
 try rw [Z1.out]
 generalize w1.alloc (.cells #[.int .i64 x.1,.int .i64 x.2] 69)=w2 at *;clear e0 e1;go_wp2_with fail
 go_loopw [6] (fun i' wr=>∃ (m:Nat) (v:V) (st':St) (A':Option Addr) (c':Nat),m≤q∧i'=.int .i64 ((m:Int) - 1)∧res=impM F.c v (l.take m).reverse st'∧VI v∧Keeps (onMb F) w wr∧Mk F wr known st' A' c'∧TN (w.heap.size+2) st.t At st'.t A'∧w.heap.size+2≤wr.heap.size∧wr.heap[w.heap.size]?=some (.cells #[.int .i64 0,.int .i64 0] 69 (0,0))∧wr.heap[w.heap.size+1]?=some (.cells #[.int .i64 v.1,.int .i64 v.2] 69 (0,0))) (fun i' _=>(intOf i'+1).toNat)
 case atStart=>exact⟨q,x,st,At,ct,Nat.le_refl _,by go_num,HS.out,HVx.out,K2.out,M2.out,TN.refl _ _ _,Z2.out,R2.out,V2.out⟩
 case round =>
  obtain ⟨m,v,st',A',c',hk,rfl,hres,hv,hkk,hmk,htn,hz,hrb,hvb⟩:=hrel;have HRes:=kp hres;have HV:=kp hv;have KR:=kp hkk;have MR:=kp hmk;have TR:=kp htn;have ZR:=kp hz;have RR:=kp hrb;have VR:=kp hvb;clear hres hv hkk hmk htn hz hrb hvb
  by_cases hm0:m=0
  ·subst hm0;replace HRes:=kp (show res=(v,st') from HRes.out);have FR:=kp (Far.of_tn HFr.out TR.out (by omega));obtain ⟨v0',v1',vf⟩:=Bk.c2 VR.out;obtain ⟨r0,r1,rf⟩:=Bk.c2 RR.out;go_wp2_with fail
   rw [HRes.out];refine mk_end (v:=v) hF Tryz.results125 MR.out hlt KR.out (TR.out.mono (by omega)) (Nat.le_refl _) FR.out RR.out ?_ ?_ HV.out <;> rfl
  ·obtain ⟨k,rfl⟩:∃ k,m=k+1:=⟨m - 1,by omega⟩;have hk0:(0:Int)≤(k:Int):=by omega
   have hkq:(k:Int) < (q:Int)+1:=by omega
   obtain ⟨y,hy⟩:∃ y,l[k]?=some y:=⟨_,List.getElem?_eq_getElem (by omega)⟩;rw [take_rev hy] at HRes;replace HRes:=kp (show res=impM F.c (opM F.c 5 0 [y,v] st').1 (l.take k).reverse (opM F.c 5 0 [y,v] st').2 from HRes.out);obtain ⟨b2,o2,hA,_,e0,e1,hvy⟩:=val_get (HLv.out.on KR.out).now hy;simp only [Option.some.injEq,Addr.mk.injEq,and_true] at hA;obtain ⟨rfl,rfl⟩:=hA;have HY:=kp hvy
   have HYr:=kp (fun W (hW:Keeps (onMb F) wr W)=>show W.cell? ⟨b,o+k * 2,none⟩=some (.int .i64 y.1)∧W.cell? ⟨b,o+k * 2+1,none⟩=some (.int .i64 y.2) by
    obtain ⟨b1,o1,hA,_,e0,e1,_⟩:=val_get (HLv.out.on (KR.out.trans_same hW)).now hy;simp only [Option.some.injEq,Addr.mk.injEq,and_true] at hA;obtain ⟨rfl,rfl⟩:=hA;exact⟨e0,e1⟩)
   clear hvy hy e0 e1 hm0;have hki:(((k+1:Nat):Int) - 1)=(k:Int):=by omega
   rw [hki];go_upto_region 5 with fail
   have hne0:w.heap.size≠F.mb:=by omega
   have hne1:w.heap.size+1≠F.mb:=by omega
   have K0:=kp (Keeps.refl (onMb F) wr).drew;have KB:=kp (K0.out.alloc (.cells #[.int .i64 y.1,.int .i64 y.2,.int .i64 v.1,.int .i64 v.2] 69));have BB:=kp ((Below.refl wr.heap.size wr).drew.alloc (Nat.le_refl _) (.cells #[.int .i64 y.1,.int .i64 y.2,.int .i64 v.1,.int .i64 v.2] 69));have NB:=kp (show(wr.drew.alloc (.cells #[.int .i64 y.1,.int .i64 y.2,.int .i64 v.1,.int .i64 v.2] 69)).heap[wr.heap.size]?=some (.cells #[.int .i64 y.1,.int .i64 y.2,.int .i64 v.1,.int .i64 v.2] 69 (0,0)) from Bk.new wr.drew _);have HOp:=kp (op_any hF (MR.out.keep BB.out) 5 0 (I8.of (by decide) (by decide)) v0_VI.1 2 (lies_two NB.out HY.out HV.out) (Nat.le_succ 2));generalize opM F.c 5 0 [y,v] st'=pr at *;obtain ⟨pv,ps⟩:=pr;have VRW:=kp (fun W (hW:Keeps (onMb F) wr W)=>show W.heap[w.heap.size+1]?=some (.cells #[.int .i64 v.1,.int .i64 v.2] 69 (0,0)) from(hW.block _ (lt_of_block VR.out) hne1).trans VR.out);have RRW:=kp (fun W (hW:Keeps (onMb F) wr W)=>show W.heap[w.heap.size]?=some (.cells #[.int .i64 0,.int .i64 0] 69 (0,0)) from(hW.block _ (lt_of_block RR.out) hne0).trans RR.out);refine wp_region_to (by kernel_rfl) (fun W=>Keeps (onMb F) wr W) 8 (K0.out) (fun hHeld=>?_);refine wpTo_take (i:=0) (oi:=Oper.mk _ _ _ _ _ _) (v:=?_) rfl (by kernel_rfl) (by kernel_rfl) (by kernel_rfl) (by kernel_rfl) (fun _ _ _ h=>h) (Or.inl ⟨by rfl,?_⟩) (by assumption) ?_;rotate_left
   ·(intro w hSw;go_simp;try with_reducible rfl)
   try simp only [pt]
   refine wpTo_take (i:=1) (oi:=Oper.mk _ _ _ _ _ _) (v:=?_) rfl (by kernel_rfl) (by kernel_rfl) (by kernel_rfl) (by kernel_rfl) (fun _ _ _ h=>h) (Or.inl ⟨by rfl,?_⟩) (by assumption) ?_;rotate_left
   ·(intro w hSw;go_simp;try with_reducible rfl)
   try simp only [pt]
   refine wpTo_take (i:=2) (oi:=Oper.mk _ _ _ _ _ _) (v:=?_) rfl (by kernel_rfl) (by kernel_rfl) (by kernel_rfl) (by kernel_rfl) (fun _ _ _ h=>h) (Or.inl ⟨by rfl,?_⟩) (by assumption) ?_;rotate_left
   ·(intro w hSw;go_simp;try with_reducible rfl)
   try simp only [pt]
   refine wpTo_take (i:=3) (oi:=Oper.mk _ _ _ _ _ _) (v:=?_) rfl (by kernel_rfl) (by kernel_rfl) (by kernel_rfl) (by kernel_rfl) (fun _ _ _ h=>h) (Or.inl ⟨by rfl,?_⟩) (by assumption) ?_;rotate_left
   ·(intro w hSw;go_simp;try with_reducible rfl)
   try simp only [pt]
   refine wpTo_take (i:=4) (oi:=Oper.mk _ _ _ _ _ _) (v:=?_) rfl (by kernel_rfl) (by kernel_rfl) (by kernel_rfl) (by kernel_rfl) (fun _ _ _ h=>h) (Or.inl ⟨by rfl,?_⟩) (by assumption) ?_;rotate_left
   ·(intro w hSw;(obtain ⟨e0,e1⟩:=HYr.out _ hSw;go_simp;try with_reducible rfl))
   try simp only [pt]
   refine wpTo_take (i:=5) (oi:=Oper.mk _ _ _ _ _ _) (v:=?_) rfl (by kernel_rfl) (by kernel_rfl) (by kernel_rfl) (by kernel_rfl) (fun _ _ _ h=>h) (Or.inl ⟨by rfl,?_⟩) (by assumption) ?_;rotate_left
   ·(intro w hSw;(obtain ⟨v0',v1',vf⟩:=Bk.c2 (VRW.out _ hSw);go_simp;try with_reducible rfl))
   try simp only [pt]
   refine wpTo_step (i:=6) (o:=Oper.mk _ _ _ _ _ _) (by kernel_rfl) rfl (fun K hK=>?_);go_simp;refine hK.out _ _ (KB.out) (fun hHeld=>?_);clear hK K;try simp only [pt]
   refine wpTo_step (i:=7) (o:=Oper.mk _ _ _ _ _ _) (by kernel_rfl) rfl (fun K hK=>?_);go_simp;refine HOp.out.mono ?_;rintro e w7 ⟨rfl,hv,hk7,A7,c7,hm7,ht7⟩;have KW:=kp (KB.out.trans_same hk7);have R7:=kp (RRW.out _ KW.out);have V7:=kp (VRW.out _ KW.out);have Z7:=kp (Nat.le_trans ZR.out KW.out.size);have T7:=kp (TR.out.trans ht7 (by have:=ZR.out;have:=KB.out.size;omega));have F7:=kp (Far.of_tn HFv.out T7.out (by omega));have M7:=kp (Mk.other2 hF hm7 (show F.mb < w.heap.size+1 by omega) F7.out (.int .i64 pv.1) (.int .i64 pv.2));have K7:=kp (((KR.out.trans_same KW.out).setCell (p:=⟨w.heap.size+1,0,none⟩) (.inr (Nat.le_succ _)) (.int .i64 pv.1)).setCell (p:=⟨w.heap.size+1,1,none⟩) (.inr (Nat.le_succ _)) (.int .i64 pv.2));have V8:=kp (Bk.set_at (Bk.set_at V7.out 0 (.int .i64 pv.1)) 1 (.int .i64 pv.2));have R8:=kp (Bk.apart (Bk.apart R7.out (p:=⟨w.heap.size+1,0,none⟩) (by show w.heap.size≠w.heap.size+1;omega) (.int .i64 pv.1)) (p:=⟨w.heap.size+1,1,none⟩) (by show w.heap.size≠w.heap.size+1;omega) (.int .i64 pv.2));have HPv:=kp hv;unfold valV;clear hk7 hm7 ht7 hv;refine hK.out _ _ KW.out (fun hHeld=>?_);clear hK K;obtain ⟨v0',v1',vf⟩:=Bk.c2 V7.out;refine wpTo_last (o:=Oper.mk _ _ _ _ _ _) (by kernel_rfl) rfl (fun K hK=>?_);go_simp;refine hK.out _ _ ?_;clear hK K;try simp only [pt]
   refine wpTo_done (by kernel_rfl) ?_ _;clear v0' v1' vf;go_wp2_with fail
   go_roundw
   case rel=>exact⟨k,pv,ps,A7,c7,by omega,by go_num,HRes.out,HPv.out,K7.out,M7.out,T7.out,by have:=Z7.out;simpa [World.setCell] using this,R8.out,V8.out⟩
   case measure=>simp [intOf]
end Go.Proofs.YtpmdcckapddchaaGreat.El
