import Derived.Test.YtpmdcckapddchaaGreatDoorShort
import Derived.Test.YtpmdcckapddchaaGreatDoorMy
import Derived.Test.YtpmdcckapddchaaGreatDoorMa
/- merged by wip/merge.py from: ElImp -/
set_option maxRecDepth 100000
set_option maxHeartbeats 51200000
namespace Go.Proofs.YtpmdcckapddchaaGreatDoor
namespace El
open Go.RowKit Go.Maps Dt Sg
theorem take_rev {l:List V} {k:Nat} {y:V} (hy:l[k]?=some y):(l.take (k+1)).reverse=y :: (l.take k).reverse:=by
 rw [List.take_add_one,hy];simp
theorem implies_any {F:Fix} (hF:FixOk F) {w:World} {known:Int} {st:St} {At:Option Addr} {ct:Nat} (hm:Mk F w known st At ct) {L:Option Addr} {l:List V} (cl:Nat) (hl:ValsS F w L l) (h1:l≠[]) (hll:l.length<=8000000000000) :
  Calls Tryz.prog 145 #[.pointer (some ⟨F.mb,0,none⟩),.slice L l.length cl] w (MkPost F known w st.t At (impM F.c (l.reverse.getD 0 v0) l.reverse.tail st).1 (impM F.c (l.reverse.getD 0 v0) l.reverse.tail st).2):=by
 obtain ⟨q,hq⟩:∃ q,l.length=q+1:=⟨l.length - 1,by have:=List.length_pos_iff.2 h1;omega⟩;obtain ⟨x,hx⟩:∃ x,l[q]?=some x:=⟨_,gqe (by omega)⟩;have hrev:l.reverse=x :: (l.take q).reverse:=by rw [← take_rev hx,← hq,List.take_length]
 have HS:=kp (show impM F.c (l.reverse.getD 0 v0) l.reverse.tail st=impM F.c x (l.take q).reverse st by rw [hrev];rfl);have B1:=kp ((brq w).alloc nlq (.cells #[.int .i64 0,.int .i64 0] 82));have R1:=kp (Bk.new w (.cells #[.int .i64 0,.int .i64 0] 82));have hlt:=hm.lt;have HFr:=kp (hm.new_far (Nat.le_refl w.heap.size));have HFv:=kp (hm.new_far (show w.heap.size<=w.heap.size+1 by omega));have M1:=kp (hm.keep B1.out);have Z1:=kp (show(w.alloc (.cells #[.int .i64 0,.int .i64 0] 82)).heap.size=w.heap.size+1 by simp);have HLv:=kp hl;obtain ⟨b,o,rfl,_,_,_,hvx⟩:=val_get hl.now hx;have HVx:=kp hvx;have HX:=kp hx;clear hvx hl h1 hrev hx;generalize impM F.c (l.reverse.getD 0 v0) l.reverse.tail st=res at *;rw [hq]
 go_enter Tryz.func145,Tryz.ntmps145
 go_upto_region 1 with fail
 generalize w.alloc (.cells #[.int .i64 0,.int .i64 0] 82)=w1 at *;obtain ⟨b',o',hA,_,e0,e1,_⟩:=val_get (HLv.out.on (Keeps.of_below B1.out _)).now HX.out;obtain ⟨rfl,rfl⟩:=aiq hA;have V2:=kp (show(w1.alloc (.cells #[.int .i64 x.1,.int .i64 x.2] 82)).heap[w.heap.size+1]?=some (.cells #[.int .i64 x.1,.int .i64 x.2] 82 (0,0)) by have h:=Bk.new w1 (.cells #[.int .i64 x.1,.int .i64 x.2] 82);rwa [Z1.out] at h);have R2:=kp (Bk.keep R1.out (.cells #[.int .i64 x.1,.int .i64 x.2] 82));have M2:=kp (M1.out.keep ((brq w1).alloc nlq (.cells #[.int .i64 x.1,.int .i64 x.2] 82)));have K2:=kp (Keeps.of_below (B1.out.alloc B1.out.size (.cells #[.int .i64 x.1,.int .i64 x.2] 82)) (onMb F));have Z2:=kp (show w.heap.size+2<=(w1.alloc (.cells #[.int .i64 x.1,.int .i64 x.2] 82)).heap.size by simp [Z1.out]);have hq0:0<=(q:Int):=by omega
 have hq1:(q:Int) < 8000000000000:=by omega
 go_upto_region 2 with fail
 try rw [Z1.out]
 generalize w1.alloc (.cells #[.int .i64 x.1,.int .i64 x.2] 82)=w2 at *;clear e0 e1;go_wp2_with fail
 go_loopw [6] (fun i' wr=>∃ (m:Nat) (v:V) (st':St) (A':Option Addr) (c':Nat),m<=q/\i'=.int .i64 ((m:Int) - 1)/\res=impM F.c v (l.take m).reverse st'/\VI v/\Keeps (onMb F) w wr/\Mk F wr known st' A' c'/\TN (w.heap.size+2) st.t At st'.t A'/\w.heap.size+2<=wr.heap.size/\wr.heap[w.heap.size]?=some (.cells #[.int .i64 0,.int .i64 0] 82 (0,0))/\wr.heap[w.heap.size+1]?=some (.cells #[.int .i64 v.1,.int .i64 v.2] 82 (0,0))) (fun i' _=>(intOf i'+1).toNat)
 case atStart=>exact⟨q,x,st,At,ct,nlq,by go_num,HS.out,HVx.out,K2.out,M2.out,TN.refl _ _ _,Z2.out,R2.out,V2.out⟩
 case round =>
  obtain ⟨m,v,st',A',c',hk,rfl,hres,hv,hkk,hmk,htn,hz,hrb,hvb⟩:=hrel;have HRes:=kp hres;have HV:=kp hv;have KR:=kp hkk;have MR:=kp hmk;have TR:=kp htn;have ZR:=kp hz;have RR:=kp hrb;have VR:=kp hvb;clear hres hv hkk hmk htn hz hrb hvb
  by_cases hm0:m=0
  ·subst hm0;replace HRes:=kp (show res=(v,st') from HRes.out);have FR:=kp (Far.of_tn HFr.out TR.out (by omega));obtain ⟨v0',v1',vf⟩:=Bk.c2 VR.out;obtain ⟨r0,r1,rf⟩:=Bk.c2 RR.out;go_wp2_with fail
   rw [HRes.out];refine mk_end (v:=v) hF Tryz.results145 MR.out hlt KR.out (TR.out.mono (by omega)) nlq FR.out RR.out ?_ ?_ HV.out <;> rfl
  ·obtain ⟨k,rfl⟩:∃ k,m=k+1:=⟨m - 1,by omega⟩;have hk0:(0:Int)<=(k:Int):=by omega
   have hkq:(k:Int) < (q:Int)+1:=by omega
   obtain ⟨y,hy⟩:∃ y,l[k]?=some y:=⟨_,gqe (by omega)⟩;rw [take_rev hy] at HRes;replace HRes:=kp (show res=impM F.c (opM F.c 5 0 [y,v] st').1 (l.take k).reverse (opM F.c 5 0 [y,v] st').2 from HRes.out);obtain ⟨b2,o2,hA,_,e0,e1,hvy⟩:=val_get (HLv.out.on KR.out).now hy;obtain ⟨rfl,rfl⟩:=aiq hA;have HY:=kp hvy
   have HYr:=kp (fun W (hW:Keeps (onMb F) wr W)=>show W.cell? ⟨b,o+k * 2,none⟩=some (.int .i64 y.1)/\W.cell? ⟨b,o+k * 2+1,none⟩=some (.int .i64 y.2) by
    obtain ⟨b1,o1,hA,_,e0,e1,_⟩:=val_get (HLv.out.on (KR.out.trans_same hW)).now hy;obtain ⟨rfl,rfl⟩:=aiq hA;exact⟨e0,e1⟩)
   clear hvy hy e0 e1 hm0;have hki:(((k+1:Nat):Int) - 1)=(k:Int):=by omega
   rw [hki];go_upto_region 5 with fail
   have hne0:w.heap.size≠F.mb:=by omega
   have hne1:w.heap.size+1≠F.mb:=by omega
   have K0:=kp (Keeps.refl (onMb F) wr).drew;have KB:=kp (K0.out.alloc (.cells #[.int .i64 y.1,.int .i64 y.2,.int .i64 v.1,.int .i64 v.2] 82));have BB:=kp ((brq wr).drew.alloc nlq (.cells #[.int .i64 y.1,.int .i64 y.2,.int .i64 v.1,.int .i64 v.2] 82));have NB:=kp (show(wr.drew.alloc (.cells #[.int .i64 y.1,.int .i64 y.2,.int .i64 v.1,.int .i64 v.2] 82)).heap[wr.heap.size]?=some (.cells #[.int .i64 y.1,.int .i64 y.2,.int .i64 v.1,.int .i64 v.2] 82 (0,0)) from Bk.new wr.drew _);have HOp:=kp (op_any hF (MR.out.keep BB.out) 5 0 (I8.of (by decide) (by decide)) v0_VI.1 2 (lies_two NB.out HY.out HV.out) (Nat.le_succ 2));generalize opM F.c 5 0 [y,v] st'=pr at *;obtain ⟨pv,ps⟩:=pr;have VRW:=kp (fun W (hW:Keeps (onMb F) wr W)=>show W.heap[w.heap.size+1]?=some (.cells #[.int .i64 v.1,.int .i64 v.2] 82 (0,0)) from(hW.block _ (lt_of_block VR.out) hne1).trans VR.out);have RRW:=kp (fun W (hW:Keeps (onMb F) wr W)=>show W.heap[w.heap.size]?=some (.cells #[.int .i64 0,.int .i64 0] 82 (0,0)) from(hW.block _ (lt_of_block RR.out) hne0).trans RR.out);refine wp_region_to (by kernel_rfl) (fun W=>Keeps (onMb F) wr W) 8 (K0.out) (fun hHeld=>?_);refine wpTo_take (i:=0) (oi:=Oper.mk _ _ _ _ _ _) (v:=?_) rfl (by kernel_rfl) (by kernel_rfl) (by kernel_rfl) (by kernel_rfl) (fun _ _ _ h=>h) (Or.inl ⟨by rfl,?_⟩) (by assumption) ?_;rotate_left
   ·(intro w hSw;go_simp;try with_reducible rfl)
   try simp only [pt]
   refine wpTo_take (i:=1) (oi:=Oper.mk _ _ _ _ _ _) (v:=?_) rfl (by kernel_rfl) (by kernel_rfl) (by kernel_rfl) (by kernel_rfl) (fun _ _ _ h=>h) (Or.inl ⟨by rfl,?_⟩) (by assumption) ?_;rotate_left
   ·(intro w hSw;go_simp;try with_reducible rfl)
   try simp only [pt]
   refine wpTo_take (i:=2) (oi:=Oper.mk _ _ _ _ _ _) (v:=?_) rfl (by kernel_rfl) (by kernel_rfl) (by kernel_rfl) (by kernel_rfl) (fun _ _ _ h=>h) (Or.inl ⟨by rfl,?_⟩) (by assumption) ?_;rotate_left
   ·(intro w hSw;go_simp;try with_reducible rfl)
   try simp only [pt]
   refine wpTo_take (i:=3) (oi:=Oper.mk _ _ _ _ _ _) (v:=?_) rfl (by kernel_rfl) (by kernel_rfl) (by kernel_rfl) (by kernel_rfl) (fun _ _ _ h=>h) (Or.inl ⟨by rfl,?_⟩) (by assumption) ?_;rotate_left
   ·(intro w hSw;go_simp;try with_reducible rfl)
   try simp only [pt]
   refine wpTo_take (i:=4) (oi:=Oper.mk _ _ _ _ _ _) (v:=?_) rfl (by kernel_rfl) (by kernel_rfl) (by kernel_rfl) (by kernel_rfl) (fun _ _ _ h=>h) (Or.inl ⟨by rfl,?_⟩) (by assumption) ?_;rotate_left
   ·(intro w hSw;(obtain ⟨e0,e1⟩:=HYr.out _ hSw;go_simp;try with_reducible rfl))
   try simp only [pt]
   refine wpTo_take (i:=5) (oi:=Oper.mk _ _ _ _ _ _) (v:=?_) rfl (by kernel_rfl) (by kernel_rfl) (by kernel_rfl) (by kernel_rfl) (fun _ _ _ h=>h) (Or.inl ⟨by rfl,?_⟩) (by assumption) ?_;rotate_left
   ·(intro w hSw;(obtain ⟨v0',v1',vf⟩:=Bk.c2 (VRW.out _ hSw);go_simp;try with_reducible rfl))
   try simp only [pt]
   refine wpTo_step (i:=6) (o:=Oper.mk _ _ _ _ _ _) (by kernel_rfl) rfl (fun K hK=>?_);go_simp;refine hK.out _ _ (KB.out) (fun hHeld=>?_);clear hK K;try simp only [pt]
   refine wpTo_step (i:=7) (o:=Oper.mk _ _ _ _ _ _) (by kernel_rfl) rfl (fun K hK=>?_);go_simp;refine HOp.out.mono ?_;rintro e w7 ⟨rfl,hv,hk7,A7,c7,hm7,ht7⟩;have KW:=kp (KB.out.trans_same hk7);have R7:=kp (RRW.out _ KW.out);have V7:=kp (VRW.out _ KW.out);have Z7:=kp (Nat.le_trans ZR.out KW.out.size);have T7:=kp (TR.out.trans ht7 (by have:=ZR.out;have:=KB.out.size;omega));have F7:=kp (Far.of_tn HFv.out T7.out (by omega));have M7:=kp (Mk.other2 hF hm7 (show F.mb < w.heap.size+1 by omega) F7.out (.int .i64 pv.1) (.int .i64 pv.2));have K7:=kp (((KR.out.trans_same KW.out).setCell (p:=⟨w.heap.size+1,0,none⟩) (.inr (Nat.le_succ _)) (.int .i64 pv.1)).setCell (p:=⟨w.heap.size+1,1,none⟩) (.inr (Nat.le_succ _)) (.int .i64 pv.2));have V8:=kp (Bk.set_at (Bk.set_at V7.out 0 (.int .i64 pv.1)) 1 (.int .i64 pv.2));have R8:=kp (Bk.apart (Bk.apart R7.out (p:=⟨w.heap.size+1,0,none⟩) (by show w.heap.size≠w.heap.size+1;omega) (.int .i64 pv.1)) (p:=⟨w.heap.size+1,1,none⟩) (by show w.heap.size≠w.heap.size+1;omega) (.int .i64 pv.2));have HPv:=kp hv;unfold valV;clear hk7 hm7 ht7 hv;refine hK.out _ _ KW.out (fun hHeld=>?_);clear hK K;obtain ⟨v0',v1',vf⟩:=Bk.c2 V7.out;refine wpTo_last (o:=Oper.mk _ _ _ _ _ _) (by kernel_rfl) rfl (fun K hK=>?_);go_simp;refine hK.out _ _ ?_;clear hK K;try simp only [pt]
   refine wpTo_done (by kernel_rfl) ?_ _;clear v0' v1' vf;go_wp2_with fail
   go_roundw
   case rel=>exact⟨k,pv,ps,A7,c7,by omega,by go_num,HRes.out,HPv.out,K7.out,M7.out,T7.out,by have:=Z7.out;simpa [World.setCell] using this,R8.out,V8.out⟩
   case measure=>simp [intOf]
end El
end Go.Proofs.YtpmdcckapddchaaGreatDoor
