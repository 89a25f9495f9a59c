import Derived.Test.YtpmdcckapddchaaGreatShort
import Derived.Test.YtpmdcckapddchaaGreatMu
import Derived.Test.YtpmdcckapddchaaGreatMs
/- merged by wip/merge.py from: ElPut ElOp -/
set_option maxRecDepth 100000
set_option maxHeartbeats 51200000
namespace Go.Proofs.YtpmdcckapddchaaGreat
namespace El
open Go.RowKit Go.Maps Dt Sg
theorem lies_new {B:Nat} {w:World} {A:Option Addr} {t:List Node} (h:∀ W,Keeps (fun b=>b < B) w W->Lies 8 NodeR W A t):t≠[]->∀ b o,A=some ⟨b,o,none⟩->B<=b:=by
 intro ht b o e;subst e
 by_cases hb:B<=b
 ·exact hb
 exfalso
 obtain ⟨n,r,rfl⟩:=List.exists_cons_of_ne_nil ht;have h1:=h w (Keeps.refl _ _);obtain ⟨b1,o1,e1,h1',_⟩:=node_get h1 (k:=0) (n:=n) rfl;have h2:=h (w.setCell ⟨b,o,none⟩ (.string { data:=#[] })) ((Keeps.refl (fun b=>b < B) w).setCell (p:=⟨b,o,none⟩) (.inl (by show b < B;omega)) _);obtain ⟨b2,o2,e2,h2',_⟩:=node_get h2 (k:=0) (n:=n) rfl;simp only [Option.some.injEq,Addr.mk.injEq,and_true] at e1 e2;obtain ⟨rfl,rfl⟩:=e1;obtain ⟨rfl,rfl⟩:=e2;have c1:=h1'.2.1;have c2:=h2'.2.1;rw [Nat.zero_mul,Nat.add_zero] at c1 c2;have c3:=World.cell?_setCell_same w ⟨b,o,none⟩ (.string { data:=#[] }) c1;rw [c2] at c3
 cases c3
def PutCut (w1:World) (t:List Node) (At:Option Addr) (r:List Node × Int × Int) (v5 v6 v7:Value) (W:World):Prop :=
 ∃ A' c' b,v5=.pointer (some ⟨b,0,none⟩)/\v6=.int .i64 r.2.1/\v7=.int .i64 r.2.2/\W.heap[b]?=some (.cells #[.slice A' r.1.length c'] 38 (0,0))/\w1.heap.size<=b/\Below w1.heap.size w1 W/\(r.1.length<=c'/\c'<=maxLen)/\Lies 8 NodeR W A' r.1/\TN w1.heap.size t At r.1 A'
theorem putCut_of {w1 wc w2:World} {t:List Node} {At A':Option Addr} {ct c':Nat} {r:List Node × Int × Int} (hb:Below wc.heap.size wc w2) (hw:Below w1.heap.size w1 wc)
  (hL:Lies 8 NodeR wc At t) (h:(A'=At/\c'=ct/\r.1=t)\/(∀ W',Keeps (fun b=>b < wc.heap.size) w2 W'->Lies 8 NodeR W' A' r.1)) :
  Lies 8 NodeR w2 A' r.1/\TN w1.heap.size t At r.1 A':=by
 rcases h with⟨rfl,rfl,h⟩ | h
 ·rw [h];exact⟨hL.on NodeR.lasts hb,.inl ⟨rfl,rfl⟩⟩
 ·exact⟨h w2 (Keeps.refl _ _),.inr fun ht b o e=>Nat.le_trans hw.size (lies_new h ht b o e)⟩
theorem putT_ok {t:List Node} {n:Node} {most M:Int} (h:(putT t n most).2.2=0) (ht:(t.length:Int)<=M) (hm:most<=M):((putT t n most).1.length:Int)<=M/\0<=(putT t n most).2.1/\(putT t n most).2.1<=M:=by
 unfold putT at h ⊢
 split at h
 ·rename_i hc
  rw [if_pos hc]
  split at h
  ·rename_i hn
   rw [if_pos hn];have:=List.findIdx_le_length (p:=fun x=>decide (x=n)) (xs:=t);simp only
   omega
  ·rename_i hn
   rw [if_neg hn]
   split at h
   ·simp at h
   ·rename_i hl
    rw [if_neg hl];simp only [List.length_append,List.length_cons,List.length_nil]
    omega
 ·simp at h
theorem Mk.setT {F:Fix} (hF:FixOk F) {w:World} {known:Int} {st:St} {At A':Option Addr} {ct c':Nat} (h:Mk F w known st At ct) {t':List Node} (hc:t'.length<=c'/\c'<=maxLen) (hl:t'.length<=1000000) (hL:Lies 8 NodeR w A' t') (hf:Far F.mb t' A'):Mk F (w.setCell ⟨F.mb,3,none⟩ (.slice A' t'.length c')) known { st with t:=t' } A' c'/\Keeps (onMb F) w (w.setCell ⟨F.mb,3,none⟩ (.slice A' t'.length c')):=by
 have hk:Keeps (onMb F) w (w.setCell ⟨F.mb,3,none⟩ (.slice A' t'.length c')):=(Keeps.refl _ w).setCell (.inl (show onMb F F.mb from rfl)) _;exact⟨⟨Bk.set_at h.blk 3 _,hc.1,hc.2,hl,lies_block hL hk.size (fun hn b o e=>hk.block b (lies_lt hL hn b o e) (hf hn b o e)),hf,h.calls,below_mb hF h.below hk⟩,hk⟩
theorem put_any {F:Fix} (hF:FixOk F) {w:World} {known:Int} {st:St} {At:Option Addr} {ct:Nat} (hm:Mk F w known st At ct) {n:Node} (hi:NodeI n) :
  Calls Tryz.prog 77 #[.pointer (some ⟨F.mb,0,none⟩),.agg #[.int .i8 n.op,.int .i8 n.len,.int .i64 n.a0,.int .i64 n.a1,.int .i64 n.a2,.int .i64 n.sort,.int .i64 n.fn,.int .i64 n.n]] w (MkPost F known w st.t At (putM F.c n st).1 (putM F.c n st).2):=by
 have HM:=kp (hm.keep (((brq w).alloc nlq (.cells #[.int .i8 n.op,.int .i8 n.len,.int .i64 n.a0,.int .i64 n.a1,.int .i64 n.a2,.int .i64 n.sort,.int .i64 n.fn,.int .i64 n.n] 55)).alloc (by simp) (.cells #[.int .i64 0,.int .i64 0] 69)));have NB:=kp (Bk.keep (Bk.new w (.cells #[.int .i8 n.op,.int .i8 n.len,.int .i64 n.a0,.int .i64 n.a1,.int .i64 n.a2,.int .i64 n.sort,.int .i64 n.fn,.int .i64 n.n] 55)) (.cells #[.int .i64 0,.int .i64 0] 69));have RB:=kp (Bk.new (w.alloc (.cells #[.int .i8 n.op,.int .i8 n.len,.int .i64 n.a0,.int .i64 n.a1,.int .i64 n.a2,.int .i64 n.sort,.int .i64 n.fn,.int .i64 n.n] 55)) (.cells #[.int .i64 0,.int .i64 0] 69));have hlt:=hm.lt;have HFr:=kp (hm.new_far (Nat.le_refl w.heap.size));have HI:=kp hi
 have HS:=kp (show putM F.c n st=if st.e≠0\/F.c.build=false then((n.sort,0),st)
  else if(putT st.t n F.c.most).2.2=0 then((n.sort,(putT st.t n F.c.most).2.1),{ st with t:=(putT st.t n F.c.most).1 })
  else(v0,{ st with e:=(putT st.t n F.c.most).2.2 }) from rfl)
 have HK:=kp (((Keeps.refl (onMb F) w).alloc (.cells #[.int .i8 n.op,.int .i8 n.len,.int .i64 n.a0,.int .i64 n.a1,.int .i64 n.a2,.int .i64 n.sort,.int .i64 n.fn,.int .i64 n.n] 55)).alloc (.cells #[.int .i64 0,.int .i64 0] 69));generalize putM F.c n st=res at *
 go_enter Tryz.func77,Tryz.ntmps77
 go_upto_region 1 with fail
 have RB1:=kp (show((w.alloc (.cells #[.int .i8 n.op,.int .i8 n.len,.int .i64 n.a0,.int .i64 n.a1,.int .i64 n.a2,.int .i64 n.sort,.int .i64 n.fn,.int .i64 n.n] 55)).alloc (.cells #[.int .i64 0,.int .i64 0] 69)).heap[w.heap.size+1]?=some (.cells #[.int .i64 0,.int .i64 0] 69 (0,0)) by have h:=RB.out;rwa [show(w.alloc (.cells #[.int .i8 n.op,.int .i8 n.len,.int .i64 n.a0,.int .i64 n.a1,.int .i64 n.a2,.int .i64 n.sort,.int .i64 n.fn,.int .i64 n.n] 55)).heap.size=w.heap.size+1 by simp] at h);have HZ:=kp (show((w.alloc (.cells #[.int .i8 n.op,.int .i8 n.len,.int .i64 n.a0,.int .i64 n.a1,.int .i64 n.a2,.int .i64 n.sort,.int .i64 n.fn,.int .i64 n.n] 55)).alloc (.cells #[.int .i64 0,.int .i64 0] 69)).heap.size=w.heap.size+2 by simp);clear RB;generalize (w.alloc (.cells #[.int .i8 n.op,.int .i8 n.len,.int .i64 n.a0,.int .i64 n.a1,.int .i64 n.a2,.int .i64 n.sort,.int .i64 n.fn,.int .i64 n.n] 55)).alloc (.cells #[.int .i64 0,.int .i64 0] 69)=w1 at *;obtain ⟨m0,m1,m2,m3,m4,m5,m6,m7,m8,mf⟩:=Bk.c9 HM.out.blk;obtain ⟨r0,r1,rf⟩:=Bk.c2 RB1.out;obtain ⟨n0,n1,n2,n3,n4,n5,n6,n7,nf⟩:=Bk.c8 NB.out;have HF1:=kp (hm.new_far (show w.heap.size<=w.heap.size+1 by omega))
 by_cases he0:st.e=0
 ·have he1:(st.e != 0)=false:=by simp [he0]
  cases hbu:F.c.build with
  | false =>
   rw [hbu] at m5;replace HS:=kp (HS.out.trans (if_pos (.inr hbu)));clear he0 hbu;go_wp2_with fail
   rw [HS.out];refine mk_end (v:=(n.sort,0)) hF Tryz.results77 HM.out hlt HK.out (TN.refl _ _ _) (by omega) HF1.out RB1.out ?_ ?_ ⟨HI.out.sort,v0_VI.1⟩ <;> rfl
  | true =>
   rw [hbu] at m5;replace HS:=kp (HS.out.trans (if_neg (by rw [hbu,he0];simp)));have HE0:=kp he0;clear he0 hbu;go_upto_region 3 with fail
   have B0:=kp (brq w1).drew;have HPt:=kp (fun W (hW:Below w1.heap.size w1 W)=>tput_any ((HM.out.keep hW).table) hi HM.out.len HM.out.le HM.out.lm hF.m64);have HLs:=kp (fun W (hW:Below w1.heap.size w1 W)=>(HM.out.keep hW).table);have M5:=kp m5;clear m0 m1 m2 m3 m4 m5 m6 m7 m8 mf r0 r1 rf n0 n1 n2 n3 n4 n5 n6 n7 nf hi;have HPk:=kp (fun h=>putT_ok (t:=st.t) (n:=n) (most:=F.c.most) (M:=1000000) h (by have:=HM.out.len;omega) hF.most);unfold TPutPost at HPt;generalize putT st.t n F.c.most=pr at *
   go_cut [5,6,7] from 23 to 36 (fun v5 v6 v7 W=>PutCut w1 st.t At pr v5 v6 v7 W)
   case first =>
    refine wp_region_held_drew (S:=fun W=>Below w1.heap.size w1 W) (by kernel_rfl) (B0.out) (fun hHeld=>?_);refine plz [0,1,2,3,4,5,6,7,8] ?_;iterate 9 (refine tnz (v:=?_) ?_ ?_;rotate_left;(focus first | ((intro w hSw;go_simp;try with_reducible rfl);done) | ((intro w hSw;(obtain ⟨m0,m1,m2,m3,m4,m5,m6,m7,m8,mf⟩:=Bk.c9 (HM.out.keep hSw).blk;go_simp;try with_reducible rfl));done) | ((intro w hSw;(obtain ⟨n0,n1,n2,n3,n4,n5,n6,n7,nf⟩:=Bk.c8 (Bk.on NB.out hSw);go_simp;try with_reducible rfl));done));try simp only [pt])
    refine pzz ?_;refine r2y 9 14 (fun K hK=>?_) fun K hK=>?_
    ·go_simp
     go_wp2_with (go_at_call 119;refine(HPt.out _ B0.out).mono ?_;rintro e w2 ⟨A',c',rfl,hc,hb,hor⟩;have B2:=kp (B0.out.trans (hb.mono B0.out.size));have HQ:=kp (putCut_of (w1:=w1) hb B0.out (HLs.out _ B0.out) hor);have HC:=kp hc;clear hb hor hc)
     refine hK.out _ _ B2.out (fun hHeld=>?_);clear hK K;try simp only [pt]
     refine plz [10,11,12,13] ?_;iterate 4 (refine tnz (v:=?_) ?_ ?_;rotate_left;(focus (intro w hSw;go_simp;try with_reducible rfl));try simp only [pt])
     refine pzz ?_;have B3:=kp (B2.out.alloc B2.out.size (.cells #[.slice none 0 0] 38));have B4:=kp (B2.out.alloc B2.out.size (.cells #[.slice A' pr.1.length c'] 38));refine rd 14 fun K hK=>?_;go_simp;refine hK.out _ _ (B3.out) (fun hHeld=>?_);clear hK K;try simp only [pt]
     refine rd 15 fun K hK=>?_;go_simp;refine hK.out _ _ (B4.out) (fun hHeld=>?_);clear hK K;try simp only [pt]
     refine plz [16,17] ?_;iterate 2 (refine tnz (v:=?_) ?_ ?_;rotate_left;(focus (intro w hSw;go_simp;try with_reducible rfl));try simp only [pt])
     refine pzz ?_;refine dnz ?_;go_wp2_with fail
     go_meet;exact⟨A',c',w2.heap.size,rfl,rfl,rfl,Bk.new w2 _,B2.out.size,B4.out,HC.out,HQ.out.1.on NodeR.lasts ((Below.refl _ _).alloc nlq _),HQ.out.2⟩
    ·go_simp;have BA:=kp (B0.out.alloc B0.out.size (.cells #[.slice none 0 0] 38));refine hK.out _ _ BA.out (fun hHeld=>?_);clear hK K;try simp only [pt]
     have TA:=kp (show(w1.drew.alloc (.cells #[.slice none 0 0] 38)).heap[w1.heap.size]?=some (.cells #[.slice none 0 0] 38 (0,0)) from Bk.new w1.drew _);refine rd 9 fun K hK=>?_;go_simp
     go_wp2_with (go_at_call 119;refine(HPt.out _ BA.out).mono ?_;rintro e w2 ⟨A',c',rfl,hc,hb,hor⟩;have B2:=kp (BA.out.trans (hb.mono BA.out.size));have HQ:=kp (putCut_of (w1:=w1) hb BA.out (HLs.out _ BA.out) hor);have HC:=kp hc;have T2:=kp (Bk.on TA.out hb);clear hc)
     refine hK.out _ _ (B2.out) (fun hHeld=>?_);clear hK K;try simp only [pt]
     refine plz [10,11,12,13] ?_;iterate 4 (refine tnz (v:=?_) ?_ ?_;rotate_left;(focus (intro w hSw;go_simp;try with_reducible rfl));try simp only [pt])
     refine pzz ?_;have B5:=kp (B2.out.setCell (p:=⟨w1.heap.size,0,none⟩) nlq (.slice A' pr.1.length c'));have T5:=kp (Bk.set_at T2.out 0 (.slice A' pr.1.length c'))
     have HA:=kp (show pr.1≠[]->∀ b o,A'=some ⟨b,o,none⟩->b≠w1.heap.size from fun ht b o e=>by
      rcases hor with⟨h1,h2,h3⟩ | hor
      ·subst h1;rw [h3] at ht;have:=lies_lt (HLs.out _ (brq w1)) ht b o e
       omega
      ·have:=lies_new hor ht b o e;have h4:=BA.out.size;simp at this
       omega)
     obtain ⟨t0,tf⟩:=Bk.c1 T2.out;clear hor hb;refine rd 15 fun K hK=>?_;go_simp;refine hK.out _ _ (B5.out) (fun hHeld=>?_);clear hK K;try simp only [pt]
     clear t0 tf;refine plz [16,17] ?_;iterate 2 (refine tnz (v:=?_) ?_ ?_;rotate_left;(focus (intro w hSw;go_simp;try with_reducible rfl));try simp only [pt])
     refine pzz ?_;refine dnz ?_;go_wp2_with fail
     go_meet;exact⟨A',c',w1.heap.size,rfl,rfl,rfl,T5.out,nlq,B5.out,HC.out,lies_block HQ.out.1 (by simp [World.setCell]) (fun ht b o e=>Below.heap_setCell w2 ⟨w1.heap.size,0,none⟩ _ b (by show b≠w1.heap.size;exact HA.out ht b o e)),HQ.out.2⟩
   case rest =>
    obtain ⟨A',c',b,rfl,rfl,rfl,hb,hlb,hB,hc,hL,hT⟩:=hcut;have Z1:=HZ.out;have HMc:=kp (HM.out.keep hB);have RBc:=kp (Bk.on RB1.out hB);have NBc:=kp (Bk.on NB.out hB);have TBc:=kp hb;have HKc:=kp (HK.out.trans_same (Keeps.of_below hB _));have HB:=kp hB;have HT:=kp hT;have HL:=kp hL;have HC:=kp hc;have HFb:=kp (show Far F.mb pr.1 A' from Far.of_tn HM.out.far hT (by omega));have HFr1:=kp (show Far (w.heap.size+1) pr.1 A' from Far.of_tn HF1.out hT (by omega));clear hB hT hL hc hb
    by_cases hz:pr.2.2=0
    ·replace HS:=kp (HS.out.trans (if_pos hz));have hz':(pr.2.2 != 0)=false:=by simp [hz]
     have hok:=HPk.out hz;have HSt:=kp (Mk.setT hF HMc.out HC.out (by omega) HL.out HFb.out);have hVI:VI (n.sort,pr.2.1):=⟨HI.out.sort,by show I64 pr.2.1;unfold I64;omega⟩;have NB2:=kp (Bk.apart NBc.out (p:=⟨F.mb,3,none⟩) (by show w.heap.size≠F.mb;omega) (.slice A' pr.1.length c'));have RB2:=kp (Bk.apart RBc.out (p:=⟨F.mb,3,none⟩) (by show w.heap.size+1≠F.mb;omega) (.slice A' pr.1.length c'));clear hz hok;obtain ⟨t0,tf⟩:=Bk.c1 TBc.out;obtain ⟨m0,m1,m2,m3,m4,m5,m6,m7,m8,mf⟩:=Bk.c9 HMc.out.blk;go_upto_region 7 with fail
     clear m0 m1 m2 m3 m4 m5 m6 m7 m8 mf t0 tf;generalize wc.setCell ⟨F.mb,3,none⟩ (.slice A' pr.1.length c')=w7 at *;obtain ⟨r0,r1,rf⟩:=Bk.c2 RB2.out;obtain ⟨n0,n1,n2,n3,n4,n5,n6,n7,nf⟩:=Bk.c8 NB2.out;go_wp2_with fail
     rw [HS.out];refine mk_end (v:=(n.sort,pr.2.1)) hF Tryz.results77 HSt.out.1 hlt (HKc.out.trans_same HSt.out.2) (HT.out.mono (by omega)) (by omega) HFr1.out RB2.out ?_ ?_ hVI <;> rfl
    ·replace HS:=kp (HS.out.trans (if_neg hz));have hz':(pr.2.2 != 0)=true:=by simp [hz]
     have HFl:=kp (fail_any hF HMc.out pr.2.2 hz);clear hz;go_wp2_with fail
     refine HFl.out.mono ?_;rintro e w5 ⟨rfl,hv,hk,A5,c5,hm5,ht5⟩;have RB5:=kp ((hk.block (w.heap.size+1) (lt_of_block RBc.out) (by unfold onMb;omega)).trans RBc.out);have HM5:=kp hm5;have HK5:=kp (HKc.out.trans_same hk);have HT5:=kp (ht5.mono (show w.heap.size<=wc.heap.size by have:=HB.out.size;omega));have HF5:=kp (Far.of_tn HF1.out ht5 (by have:=HB.out.size;omega));have HSf:=kp (show failS pr.2.2 st={ st with e:=pr.2.2 } by unfold failS;rw [if_pos HE0.out]);rw [HSf.out] at HM5 HT5 HF5;unfold valV v0;clear hv hk hm5 ht5;obtain ⟨r0,r1,rf⟩:=Bk.c2 RB5.out;go_wp2_with fail
     rw [HS.out];refine mk_end (v:=v0) hF Tryz.results77 HM5.out hlt HK5.out HT5.out (by omega) HF5.out RB5.out ?_ ?_ v0_VI <;> rfl
 ·have he1:(st.e != 0)=true:=by simp [he0]
  replace HS:=kp (HS.out.trans (if_pos (.inl he0)));clear he0;go_wp2_with fail
  rw [HS.out];refine mk_end (v:=(n.sort,0)) hF Tryz.results77 HM.out hlt HK.out (TN.refl _ _ _) (by omega) HF1.out RB1.out ?_ ?_ ⟨HI.out.sort,v0_VI.1⟩ <;> rfl
def ValR (_:World) (vs:List Value) (v:V):Prop:=vs=[.int .i64 v.1,.int .i64 v.2]/\VI v
theorem ValR.lasts:Lasts ValR:=fun _ _ _ _ _ h=>h
theorem val_get {w:World} {A:Option Addr} {l:List V} (h:Lies 2 ValR w A l) {k:Nat} {v:V} (hv:l[k]?=some v):∃ b o,A=some ⟨b,o,none⟩/\b < w.heap.size/\w.cell? ⟨b,o+k * 2,none⟩=some (.int .i64 v.1)/\w.cell? ⟨b,o+k * 2+1,none⟩=some (.int .i64 v.2)/\VI v:=by
 obtain ⟨b,o,vs,hA,hb,_,hc,rfl,hi⟩:=h.at' hv;exact⟨b,o,hA,hb,hc 0 _ rfl,hc 1 _ rfl,hi⟩
def argK (l:List V) (k i:Nat):Int:=if i < k then nthN l i else 0
theorem opS_i64 {op:Int} {l:List Int} {s:Int} (h:opS op l=some s) (hl:∀ x ∈ l,I64 x):I64 s:=by
 unfold opS at h
 repeat' split at h
 all_goals first | (cases h;unfold I64;omega) | (cases h;exact hl _ (by simp)) | cases h
theorem nthN_i64 {l:List V} (h:∀ v ∈ l,VI v) (i:Nat):I64 (nthN l i):=by
 unfold nthN;rw [List.getD_eq_getElem?_getD]
 cases hv:l[i]? with
 | none=>exact v0_VI.2
 | some v=>exact(h v (mgq hv)).2
theorem lies_vi {w:World} {A:Option Addr} {l:List V} (h:Lies 2 ValR w A l):∀ v ∈ l,VI v:=by
 intro v hv;obtain ⟨k,hk⟩:=List.getElem?_of_mem hv;obtain ⟨_,_,_,_,_,_,h⟩:=val_get h hk;exact h
theorem owns_keepE {S:Nat->Prop} {w w':World} {B m n:Nat} {t:TypeId} {v:Value} {xs:List Value} (h:w.ownsRow B t m v n xs) (hk:Keeps S w w') (hS:∀ k,S k->k < B):w'.ownsRow B t m v n xs:=by
 refine⟨h.1,?_⟩;rcases h.2 with h1 | ⟨g,cap,cur,h1,hg,hat,h2⟩
 ·exact .inl h1
 ·exact .inr ⟨g,cap,cur,h1,hg,(hk.block g (lt_of_block hat) (fun hs=>by have:=hS g hs;omega)).trans hat,h2⟩
theorem argK_full (l:List V) (i:Nat):argK l l.length i=nthN l i:=by
 unfold argK
 split
 ·rfl
 ·rename_i h
  unfold nthN;rw [List.getD_eq_getElem?_getD,List.getElem?_eq_none (by omega)]
  rfl
theorem row_cap {w:World} {B n s c:Nat} {t:TypeId} {A:Option Addr} {xs:List Value} (h:w.ownsRow B t s (.slice A n c) n xs):n<=c/\c<=maxLen:=by
 rcases h.2 with⟨h1,h2⟩ | ⟨g,cap,cur,h1,_,_,h3,h4,_⟩
 ·simp only [Value.slice.injEq] at h1;obtain ⟨_,rfl,rfl⟩:=h1;exact⟨nlq,by unfold maxLen;omega⟩
 ·simp only [Value.slice.injEq] at h1;obtain ⟨_,_,rfl⟩:=h1;exact⟨h3,h4⟩
theorem args_set {op ln n:Int} {l:List V} {k:Nat} {v:V} (hk:k < 3) (hv:l[k]?=some v) :
  #[Value.int .i8 op,.int .i8 ln,.int .i64 (argK l k 0),.int .i64 (argK l k 1),.int .i64 (argK l k 2),.int .i64 0,.int .i64 0,.int .i64 n].setIfInBounds (2+k) (.int .i64 v.2) =
  #[Value.int .i8 op,.int .i8 ln,.int .i64 (argK l (k+1) 0),.int .i64 (argK l (k+1) 1),.int .i64 (argK l (k+1) 2),.int .i64 0,.int .i64 0,.int .i64 n]:=by
 have hn:nthN l k=v.2:=by unfold nthN;rw [List.getD_eq_getElem?_getD,hv];rfl
 have hc:k=0\/k=1\/k=2:=by omega
 rcases hc with rfl | rfl | rfl <;> simp [argK,hn]
theorem op_any {F:Fix} (hF:FixOk F) {w:World} {known:Int} {st:St} {At:Option Addr} {ct:Nat} (hm:Mk F w known st At ct) (op n:Int) (hop:I8 op) (hn:I64 n) {L:Option Addr} {l:List V} (cl:Nat) (hl:Lies 2 ValR w L l) (h3:l.length<=3) :
  Calls Tryz.prog 46 #[.pointer (some ⟨F.mb,0,none⟩),.int .i8 op,.int .i64 n,.slice L l.length cl] w (MkPost F known w st.t At (opM F.c op n l st).1 (opM F.c op n l st).2):=by
 obtain ⟨i0,hi0,z0,z1,z2⟩:=info_parts info_int;have I0:=kp hi0;have I1:=kp z0;have I2:=kp z1;have I3:=kp z2;clear hi0 z0 z1 z2
 have HS:=kp (show opM F.c op n l st=if st.e≠0 then(v0,st)
  else match opS op (l.map Prod.fst) with
   | none=>(v0,{ st with e:=33 })
   | some s=>putM F.c ⟨op,l.length,nthN l 0,nthN l 1,nthN l 2,s,0,if F.c.build then n else 0⟩ st from rfl)
 have HM:=kp (hm.keep ((brq w).alloc nlq (.cells #[.int .i64 0,.int .i64 0] 69)));have RB:=kp (Bk.new w (.cells #[.int .i64 0,.int .i64 0] 69));have B1:=kp ((brq w).alloc nlq (.cells #[.int .i64 0,.int .i64 0] 69));have HZ1:=kp (show(w.alloc (.cells #[.int .i64 0,.int .i64 0] 69)).heap.size=w.heap.size+1 by simp);have hlt:=hm.lt;have HFr:=kp (hm.new_far (Nat.le_refl w.heap.size));have HFx:=kp (hm.new_far (show w.heap.size<=w.heap.size+1 by omega));have HOp:=kp (fun W A c hc hcl hcm=>tyop_any (w:=W) (A:=A) (l:=l.map Prod.fst) (c:=c) op hop hc (by rw [List.length_map];omega) hcl hcm);have HOs:=kp (opProg_some (op:=op) (l:=l.map Prod.fst));have HSi:=kp (fun s h=>opS_i64 (op:=op) (l:=l.map Prod.fst) (s:=s) h (fun x hx=>by obtain ⟨v,hv,rfl⟩:=List.mem_map.1 hx;exact(lies_vi hl v hv).1));have HNi:=kp (nthN_i64 (lies_vi hl));unfold OpPost at HOp;rw [List.length_map] at HOp;have HL:=kp hl;have HK:=kp ((Keeps.refl (onMb F) w).alloc (.cells #[.int .i64 0,.int .i64 0] 69));clear hl;generalize opM F.c op n l st=res at *
 go_enter Tryz.func46,Tryz.ntmps46
 go_upto_region 1 with fail
 generalize w.alloc (.cells #[.int .i64 0,.int .i64 0] 69)=w1 at *;obtain ⟨m0,m1,m2,m3,m4,m5,m6,m7,m8,mf⟩:=Bk.c9 HM.out.blk
 by_cases he0:st.e=0
 ·have he1:(st.e != 0)=false:=by simp [he0]
  replace HS:=kp (HS.out.trans (if_neg (by simp [he0])));have HE0:=kp he0;have hl128:(l.length:Int) < 128:=by omega
  clear he0;go_upto_region 4 with fail
  have hlt1:F.mb < w1.heap.size:=by rw [HZ1.out];omega
  have MA:=kp (HM.out.keep ((brq w1).alloc nlq (.cells #[.int .i8 op,.int .i8 (l.length:Int),.int .i64 0,.int .i64 0,.int .i64 0,.int .i64 0,.int .i64 0,.int .i64 n] 55)));clear m0 m1 m2 m3 m4 m5 m6 m7 m8 mf;obtain ⟨m0,m1,m2,m3,m4,m5,m6,m7,m8,mf⟩:=Bk.c9 MA.out.blk;have HZ2:=kp (show F.mb < w.heap.size+1 by omega)
  cases hbu:F.c.build with
  | false =>
   rw [hbu] at HS m5;have hnz:I64 0:=v0_VI.1;clear hbu;go_upto_region 6 with fail
   clear m0 m1 m2 m3 m4 m5 m6 m7 m8 mf MA;have XB:=kp (show(w1.alloc (.cells #[.int .i8 op,.int .i8 (l.length:Int),.int .i64 0,.int .i64 0,.int .i64 0,.int .i64 0,.int .i64 0,.int .i64 0] 55)).heap[w.heap.size+1]?=some (.cells #[.int .i8 op,.int .i8 (l.length:Int),.int .i64 0,.int .i64 0,.int .i64 0,.int .i64 0,.int .i64 0,.int .i64 0] 55 (0,0)) by have h:=Bk.new w1 (.cells #[.int .i8 op,.int .i8 (l.length:Int),.int .i64 0,.int .i64 0,.int .i64 0,.int .i64 0,.int .i64 0,.int .i64 0] 55);rwa [HZ1.out] at h);have M2:=kp (HM.out.keep ((brq w1).alloc nlq (.cells #[.int .i8 op,.int .i8 (l.length:Int),.int .i64 0,.int .i64 0,.int .i64 0,.int .i64 0,.int .i64 0,.int .i64 0] 55)));have R2:=kp (Bk.keep RB.out (.cells #[.int .i8 op,.int .i8 (l.length:Int),.int .i64 0,.int .i64 0,.int .i64 0,.int .i64 0,.int .i64 0,.int .i64 0] 55));have B2:=kp (B1.out.alloc B1.out.size (.cells #[.int .i8 op,.int .i8 (l.length:Int),.int .i64 0,.int .i64 0,.int .i64 0,.int .i64 0,.int .i64 0,.int .i64 0] 55));have Z2:=kp (show w.heap.size+2<=(w1.alloc (.cells #[.int .i8 op,.int .i8 (l.length:Int),.int .i64 0,.int .i64 0,.int .i64 0,.int .i64 0,.int .i64 0,.int .i64 0] 55)).heap.size by simp [HZ1.out]);try rw [HZ1.out]
   generalize w1.alloc (.cells #[.int .i8 op,.int .i8 (l.length:Int),.int .i64 0,.int .i64 0,.int .i64 0,.int .i64 0,.int .i64 0,.int .i64 0] 55)=w2 at *;go_wp2_with fail
   go_loopw [10,35] (fun v' i' wr=>∃ k:Nat,k<=l.length/\i'=.int .i64 k/\wr.ownsRow (w.heap.size+2) 3 1 v' k (((l.take k).map Prod.fst).map (Value.int .i64))/\Below w.heap.size w wr/\w.heap.size+2<=wr.heap.size/\wr.heap[w.heap.size]?=some (.cells #[.int .i64 0,.int .i64 0] 69 (0,0))/\wr.heap[w.heap.size+1]?=some (.cells #[.int .i8 op,.int .i8 (l.length:Int),.int .i64 (argK l k 0),.int .i64 (argK l k 1),.int .i64 (argK l k 2),.int .i64 0,.int .i64 0,.int .i64 0] 55 (0,0))) (fun _ i' _=>l.length - (intOf i').toNat)
   case atStart=>exact⟨0,Nat.zero_le _,rfl,⟨rfl,.inl ⟨rfl,rfl⟩⟩,B2.out,Z2.out,R2.out,XB.out⟩
   case round =>
    obtain ⟨k,hk,rfl,ho,hb,hz,hr,hx⟩:=hrel;have HO:=kp ho;have HB:=kp hb;have HZ:=kp hz;have RR:=kp hr;have XR:=kp hx;obtain ⟨Ao,co,rfl⟩:=row_shape ho;clear ho hb hz hr hx
    by_cases hkl:k < l.length
    ·have hlt2:(k:Int) < (l.length:Int):=by omega
     have hk3:k < 3:=by omega
     obtain ⟨v,hv⟩:∃ v,l[k]?=some v:=⟨_,gqe hkl⟩;obtain ⟨b,o,rfl,hbl,e0,e1,hvi⟩:=val_get (HL.out.on ValR.lasts HB.out) hv;have HV:=kp hvi;have HSet:=kp (args_set (op:=op) (ln:=(l.length:Int)) (n:=0) hk3 hv);have HTk:=kp (show((l.take (k+1)).map Prod.fst).map (Value.int .i64)=((l.take k).map Prod.fst).map (Value.int .i64) ++ [.int .i64 v.1] by rw [List.take_add_one,hv];simp);generalize ((l.take k).map Prod.fst).map (Value.int .i64)=vk at *;have XA:=kp (Bk.keep XR.out (.cells #[.int .i64 v.1,.int .i64 v.2] 69));have RA:=kp (Bk.keep RR.out (.cells #[.int .i64 v.1,.int .i64 v.2] 69));have VA:=kp (Bk.new wr (.cells #[.int .i64 v.1,.int .i64 v.2] 69));have BA:=kp (HB.out.alloc HB.out.size (.cells #[.int .i64 v.1,.int .i64 v.2] 69));have OA:=kp (show World.ownsRow (wr.alloc (.cells #[.int .i64 v.1,.int .i64 v.2] 69)) (w.heap.size+2) 3 1 (.slice Ao k co) k vk from HO.out.alloc _);have ZA:=kp (show w.heap.size+2<=(wr.alloc (.cells #[.int .i64 v.1,.int .i64 v.2] 69)).heap.size by have:=HZ.out;simp;omega);have HZr:=kp (show wr.heap.size≠w.heap.size+1 by have:=HZ.out;omega);clear hv hvi HZ XR RR HB HO;go_upto_region 10 with fail
     generalize hwa:wr.alloc (.cells #[.int .i64 v.1,.int .i64 v.2] 69)=wa at *;clear hwa e0 e1;have pk:=NodeAt.arg' (node_block (n:=⟨op,l.length,argK l k 0,argK l k 1,argK l k 2,0,0,0⟩) XA.out) hk3;rw [Nat.zero_add] at pk;obtain ⟨_,_,_,_,_,_,_,_,xf⟩:=Bk.c8 XA.out;obtain ⟨v0',v1',vf⟩:=Bk.c2 VA.out;have KB:=kp ((Keeps.refl (fun b=>b=w.heap.size+1) wa).setCell (p:=⟨w.heap.size+1,2+k,none⟩) (.inl rfl) (.int .i64 v.2));have XC:=kp (Bk.set_at XA.out (2+k) (.int .i64 v.2));rw [HSet.out] at XC;have RC:=kp (Bk.apart RA.out (p:=⟨w.heap.size+1,2+k,none⟩) (by show w.heap.size≠w.heap.size+1;omega) (.int .i64 v.2));have VC:=kp (Bk.apart VA.out (p:=⟨w.heap.size+1,2+k,none⟩) (by show wr.heap.size≠w.heap.size+1;exact HZr.out) (.int .i64 v.2));have BC:=kp (BA.out.setCell (p:=⟨w.heap.size+1,2+k,none⟩) (by show w.heap.size<=w.heap.size+1;omega) (.int .i64 v.2));have OC:=kp (owns_keepE OA.out KB.out (fun b hb=>by omega));have ZC:=kp (show w.heap.size+2<=(wa.setCell ⟨w.heap.size+1,2+k,none⟩ (.int .i64 v.2)).heap.size from Nat.le_trans ZA.out KB.out.size);go_upto_region 11 with fail
     clear v0' v1' vf pk xf XA VA BA OA ZA KB;generalize hwc:wa.setCell ⟨w.heap.size+1,2+k,none⟩ (.int .i64 v.2)=wc at *;clear hwc;obtain ⟨v0',v1',vf⟩:=Bk.c2 VC.out;have OD:=kp (show World.ownsRow (wc.alloc (.cells #[.int .i64 v.1] 3)) (w.heap.size+2) 3 1 (.slice Ao k co) k vk from OC.out.alloc _);have CD:=kp (Cells.new wc [.int .i64 v.1] 3 (0,0));have XD:=kp (Bk.keep XC.out (.cells #[.int .i64 v.1] 3));have RD:=kp (Bk.keep RC.out (.cells #[.int .i64 v.1] 3));have BD:=kp (BC.out.alloc BC.out.size (.cells #[.int .i64 v.1] 3))
     go_wp2_with (at_builtin;refine wpList_append_at rfl (.tmp 45) (.tmp 48) _ rfl (w.heap.size+2) 3 i0 (.int .i64 0) 1 8 Tryz.underlying111 I0.out I1.out I2.out I3.out rfl (by decide) (.slice Ao k co) k vk rfl OD.out (some ⟨wc.heap.size,0,none⟩) 1 1 [.int .i64 v.1] rfl rfl CD.out (by simp [Value.oneCell']) (by unfold maxLen;omega) (by omega) (by have:=ZC.out;simp;omega) ?_)
     intro v9 w9 hown hgr hat;have O9:=kp (show w9.ownsRow (w.heap.size+2) 3 1 v9 (k+1) (((l.take (k+1)).map Prod.fst).map (Value.int .i64)) by rw [HTk.out];exact hown);have HNb:=kp (show ∀ j,j < w.heap.size+2->some j≠(Value.slice Ao k co).ownBlock from fun j hj e=>by have:=(OD.out.lt j e.symm).1;omega);have B9:=kp (BD.out.grown hgr (by have:=BD.out.size;simpa using this) (fun j hj=>by have:=(OD.out.lt j hj).1;omega));have X9:=kp ((hgr.block _ (lt_of_block XD.out) (HNb.out _ (by omega))).trans XD.out);have R9:=kp ((hgr.block _ (lt_of_block RD.out) (HNb.out _ (by omega))).trans RD.out);have Z9:=kp (show w.heap.size+2<=w9.heap.size by have:=ZC.out;have:=hgr.size;simp at this;omega);clear hown hgr hat v0' v1' vf;go_wp2_with fail
     go_roundw
     case rel=>exact⟨k+1,by omega,by go_num,O9.out,B9.out,Z9.out,R9.out,X9.out⟩
     case measure=>simp [intOf];omega
    ·obtain rfl:k=l.length:=by omega
     have HCp:=kp (row_cap HO.out);have HCl:=kp (Cells.own HO.out);rw [List.take_length] at HCl;have HCall:=kp (HOp.out wr Ao co HCl.out HCp.out.1 HCp.out.2);have MR:=kp (hm.keep HB.out)
     cases hos:opS op (l.map Prod.fst) with
     | none =>
      obtain ⟨p1,p2⟩:=HOs.out.2 hos;rw [hos] at HS;generalize opProg op (l.map Prod.fst)=pr at *;obtain ⟨pa,pb⟩:=pr;have hpb:(pb != 0)=true:=by rw [bne_iff_ne];simp at p2;omega
      clear hos p1 p2;go_wp2_with fail
      refine HCall.out.mono ?_;rintro e w5 ⟨rfl,hb5⟩;have B5:=kp (HB.out.trans (hb5.mono HB.out.size));have R5:=kp (Bk.on RR.out hb5);have M5:=kp (MR.out.keep hb5);have HFl:=kp (fail_any hF M5.out 33 (by decide));clear hb5;go_wp2_with fail
      refine HFl.out.mono ?_;rintro e w6 ⟨rfl,hv,hk6,A6,c6,hm6,ht6⟩;have R6:=kp ((hk6.block w.heap.size (lt_of_block R5.out) (by unfold onMb;omega)).trans R5.out);have M6:=kp hm6;have K6:=kp ((Keeps.of_below B5.out (onMb F)).trans_same hk6);have HT6:=kp (ht6.mono B5.out.size);have HF6:=kp (Far.of_tn HFr.out ht6 (lt_of_block R5.out));have HSf:=kp (show failS 33 st={ st with e:=33 } by unfold failS;rw [if_pos HE0.out]);rw [HSf.out] at M6 HT6 HF6;unfold valV v0;clear hv hk6 hm6 ht6;obtain ⟨r0,r1,rf⟩:=Bk.c2 R6.out;go_wp2_with fail
      rw [HS.out];refine mk_end (v:=v0) hF Tryz.results46 M6.out hlt K6.out HT6.out nlq HF6.out R6.out ?_ ?_ v0_VI <;> rfl
     | some s =>
      have hp:=HOs.out.1 s hos;have hsi:=HSi.out s hos;rw [hp] at HCall;rw [hos] at HS;clear hos hp;go_wp2_with fail
      refine HCall.out.mono ?_;rintro e w5 ⟨rfl,hb5⟩;have B5:=kp (HB.out.trans (hb5.mono HB.out.size));have R5:=kp (Bk.on RR.out hb5);have X5:=kp (Bk.on XR.out hb5);have M5:=kp (MR.out.keep hb5);clear hb5;obtain ⟨x0,x1,x2,x3,x4,x5,x6,x7,xf⟩:=Bk.c8 X5.out;go_upto_region 17 with fail
      clear x0 x1 x2 x3 x4 x5 x6 x7 xf;have X6:=kp (show(w5.setCell ⟨w.heap.size+1,5,none⟩ (.int .i64 s)).heap[w.heap.size+1]?=some (.cells #[.int .i8 op,.int .i8 (l.length:Int),.int .i64 (argK l l.length 0),.int .i64 (argK l l.length 1),.int .i64 (argK l l.length 2),.int .i64 s,.int .i64 0,.int .i64 0] 55 (0,0)) from Bk.set_at X5.out 5 (.int .i64 s));have R6:=kp (Bk.apart R5.out (p:=⟨w.heap.size+1,5,none⟩) (by show w.heap.size≠w.heap.size+1;omega) (.int .i64 s));have M6:=kp (M5.out.other hF (by omega) HFx.out 5 (.int .i64 s));have B6:=kp (B5.out.setCell (p:=⟨w.heap.size+1,5,none⟩) (by show w.heap.size<=w.heap.size+1;omega) (.int .i64 s));generalize w5.setCell ⟨w.heap.size+1,5,none⟩ (.int .i64 s)=w6 at *;have HNI:=kp (show NodeI ⟨op,l.length,argK l l.length 0,argK l l.length 1,argK l l.length 2,s,0,0⟩ from⟨hop,by show I8 (l.length:Int);unfold I8;simp [Lit.wf];rw [show IntKind.i8.min=-128 by rfl,show IntKind.i8.max=127 by rfl];omega,(argK_full l 0).symm ▸ HNi.out 0,(argK_full l 1).symm ▸ HNi.out 1,(argK_full l 2).symm ▸ HNi.out 2,hsi,v0_VI.1,hnz⟩);have HPut:=kp (put_any hF M6.out HNI.out);replace HS:=kp (show res=putM F.c ⟨op,l.length,argK l l.length 0,argK l l.length 1,argK l l.length 2,s,0,0⟩ st by rw [HS.out,argK_full,argK_full,argK_full];rfl);rw [← HS.out] at HPut;obtain ⟨x0,x1,x2,x3,x4,x5,x6,x7,xf⟩:=Bk.c8 X6.out;go_wp2_with fail
      refine HPut.out.mono ?_;rintro e w7 ⟨rfl,hv,hk7,A7,c7,hm7,ht7⟩;have R7:=kp ((hk7.block w.heap.size (lt_of_block R6.out) (by unfold onMb;omega)).trans R6.out);have M7:=kp hm7;have K7:=kp ((Keeps.of_below B6.out (onMb F)).trans_same hk7);have HT7:=kp (ht7.mono B6.out.size);have HF7:=kp (Far.of_tn HFr.out ht7 (lt_of_block R6.out));unfold valV;clear hk7 hm7 ht7 HS x0 x1 x2 x3 x4 x5 x6 x7 xf;obtain ⟨r0,r1,rf⟩:=Bk.c2 R7.out;go_wp2_with fail
      refine mk_end (v:=res.1) hF Tryz.results46 M7.out hlt K7.out HT7.out nlq HF7.out R7.out ?_ ?_ hv <;> rfl
  | true =>
   rw [hbu] at HS m5;clear hbu;go_upto_region 6 with fail
   clear m0 m1 m2 m3 m4 m5 m6 m7 m8 mf MA;have XB:=kp (show(w1.alloc (.cells #[.int .i8 op,.int .i8 (l.length:Int),.int .i64 0,.int .i64 0,.int .i64 0,.int .i64 0,.int .i64 0,.int .i64 n] 55)).heap[w.heap.size+1]?=some (.cells #[.int .i8 op,.int .i8 (l.length:Int),.int .i64 0,.int .i64 0,.int .i64 0,.int .i64 0,.int .i64 0,.int .i64 n] 55 (0,0)) by have h:=Bk.new w1 (.cells #[.int .i8 op,.int .i8 (l.length:Int),.int .i64 0,.int .i64 0,.int .i64 0,.int .i64 0,.int .i64 0,.int .i64 n] 55);rwa [HZ1.out] at h);have M2:=kp (HM.out.keep ((brq w1).alloc nlq (.cells #[.int .i8 op,.int .i8 (l.length:Int),.int .i64 0,.int .i64 0,.int .i64 0,.int .i64 0,.int .i64 0,.int .i64 n] 55)));have R2:=kp (Bk.keep RB.out (.cells #[.int .i8 op,.int .i8 (l.length:Int),.int .i64 0,.int .i64 0,.int .i64 0,.int .i64 0,.int .i64 0,.int .i64 n] 55));have B2:=kp (B1.out.alloc B1.out.size (.cells #[.int .i8 op,.int .i8 (l.length:Int),.int .i64 0,.int .i64 0,.int .i64 0,.int .i64 0,.int .i64 0,.int .i64 n] 55));have Z2:=kp (show w.heap.size+2<=(w1.alloc (.cells #[.int .i8 op,.int .i8 (l.length:Int),.int .i64 0,.int .i64 0,.int .i64 0,.int .i64 0,.int .i64 0,.int .i64 n] 55)).heap.size by simp [HZ1.out]);try rw [HZ1.out]
   generalize w1.alloc (.cells #[.int .i8 op,.int .i8 (l.length:Int),.int .i64 0,.int .i64 0,.int .i64 0,.int .i64 0,.int .i64 0,.int .i64 n] 55)=w2 at *;go_wp2_with fail
   go_loopw [10,35] (fun v' i' wr=>∃ k:Nat,k<=l.length/\i'=.int .i64 k/\wr.ownsRow (w.heap.size+2) 3 1 v' k (((l.take k).map Prod.fst).map (Value.int .i64))/\Below w.heap.size w wr/\w.heap.size+2<=wr.heap.size/\wr.heap[w.heap.size]?=some (.cells #[.int .i64 0,.int .i64 0] 69 (0,0))/\wr.heap[w.heap.size+1]?=some (.cells #[.int .i8 op,.int .i8 (l.length:Int),.int .i64 (argK l k 0),.int .i64 (argK l k 1),.int .i64 (argK l k 2),.int .i64 0,.int .i64 0,.int .i64 n] 55 (0,0))) (fun _ i' _=>l.length - (intOf i').toNat)
   case atStart=>exact⟨0,Nat.zero_le _,rfl,⟨rfl,.inl ⟨rfl,rfl⟩⟩,B2.out,Z2.out,R2.out,XB.out⟩
   case round =>
    obtain ⟨k,hk,rfl,ho,hb,hz,hr,hx⟩:=hrel;have HO:=kp ho;have HB:=kp hb;have HZ:=kp hz;have RR:=kp hr;have XR:=kp hx;obtain ⟨Ao,co,rfl⟩:=row_shape ho;clear ho hb hz hr hx
    by_cases hkl:k < l.length
    ·have hlt2:(k:Int) < (l.length:Int):=by omega
     have hk3:k < 3:=by omega
     obtain ⟨v,hv⟩:∃ v,l[k]?=some v:=⟨_,gqe hkl⟩;obtain ⟨b,o,rfl,hbl,e0,e1,hvi⟩:=val_get (HL.out.on ValR.lasts HB.out) hv;have HV:=kp hvi;have HSet:=kp (args_set (op:=op) (ln:=(l.length:Int)) (n:=n) hk3 hv);have HTk:=kp (show((l.take (k+1)).map Prod.fst).map (Value.int .i64)=((l.take k).map Prod.fst).map (Value.int .i64) ++ [.int .i64 v.1] by rw [List.take_add_one,hv];simp);generalize ((l.take k).map Prod.fst).map (Value.int .i64)=vk at *;have XA:=kp (Bk.keep XR.out (.cells #[.int .i64 v.1,.int .i64 v.2] 69));have RA:=kp (Bk.keep RR.out (.cells #[.int .i64 v.1,.int .i64 v.2] 69));have VA:=kp (Bk.new wr (.cells #[.int .i64 v.1,.int .i64 v.2] 69));have BA:=kp (HB.out.alloc HB.out.size (.cells #[.int .i64 v.1,.int .i64 v.2] 69));have OA:=kp (show World.ownsRow (wr.alloc (.cells #[.int .i64 v.1,.int .i64 v.2] 69)) (w.heap.size+2) 3 1 (.slice Ao k co) k vk from HO.out.alloc _);have ZA:=kp (show w.heap.size+2<=(wr.alloc (.cells #[.int .i64 v.1,.int .i64 v.2] 69)).heap.size by have:=HZ.out;simp;omega);have HZr:=kp (show wr.heap.size≠w.heap.size+1 by have:=HZ.out;omega);clear hv hvi HZ XR RR HB HO;go_upto_region 10 with fail
     generalize hwa:wr.alloc (.cells #[.int .i64 v.1,.int .i64 v.2] 69)=wa at *;clear hwa e0 e1;have pk:=NodeAt.arg' (node_block (n:=⟨op,l.length,argK l k 0,argK l k 1,argK l k 2,0,0,n⟩) XA.out) hk3;rw [Nat.zero_add] at pk;obtain ⟨_,_,_,_,_,_,_,_,xf⟩:=Bk.c8 XA.out;obtain ⟨v0',v1',vf⟩:=Bk.c2 VA.out;have KB:=kp ((Keeps.refl (fun b=>b=w.heap.size+1) wa).setCell (p:=⟨w.heap.size+1,2+k,none⟩) (.inl rfl) (.int .i64 v.2));have XC:=kp (Bk.set_at XA.out (2+k) (.int .i64 v.2));rw [HSet.out] at XC;have RC:=kp (Bk.apart RA.out (p:=⟨w.heap.size+1,2+k,none⟩) (by show w.heap.size≠w.heap.size+1;omega) (.int .i64 v.2));have VC:=kp (Bk.apart VA.out (p:=⟨w.heap.size+1,2+k,none⟩) (by show wr.heap.size≠w.heap.size+1;exact HZr.out) (.int .i64 v.2));have BC:=kp (BA.out.setCell (p:=⟨w.heap.size+1,2+k,none⟩) (by show w.heap.size<=w.heap.size+1;omega) (.int .i64 v.2));have OC:=kp (owns_keepE OA.out KB.out (fun b hb=>by omega));have ZC:=kp (show w.heap.size+2<=(wa.setCell ⟨w.heap.size+1,2+k,none⟩ (.int .i64 v.2)).heap.size from Nat.le_trans ZA.out KB.out.size);go_upto_region 11 with fail
     clear v0' v1' vf pk xf XA VA BA OA ZA KB;generalize hwc:wa.setCell ⟨w.heap.size+1,2+k,none⟩ (.int .i64 v.2)=wc at *;clear hwc;obtain ⟨v0',v1',vf⟩:=Bk.c2 VC.out;have OD:=kp (show World.ownsRow (wc.alloc (.cells #[.int .i64 v.1] 3)) (w.heap.size+2) 3 1 (.slice Ao k co) k vk from OC.out.alloc _);have CD:=kp (Cells.new wc [.int .i64 v.1] 3 (0,0));have XD:=kp (Bk.keep XC.out (.cells #[.int .i64 v.1] 3));have RD:=kp (Bk.keep RC.out (.cells #[.int .i64 v.1] 3));have BD:=kp (BC.out.alloc BC.out.size (.cells #[.int .i64 v.1] 3))
     go_wp2_with (at_builtin;refine wpList_append_at rfl (.tmp 45) (.tmp 48) _ rfl (w.heap.size+2) 3 i0 (.int .i64 0) 1 8 Tryz.underlying111 I0.out I1.out I2.out I3.out rfl (by decide) (.slice Ao k co) k vk rfl OD.out (some ⟨wc.heap.size,0,none⟩) 1 1 [.int .i64 v.1] rfl rfl CD.out (by simp [Value.oneCell']) (by unfold maxLen;omega) (by omega) (by have:=ZC.out;simp;omega) ?_)
     intro v9 w9 hown hgr hat;have O9:=kp (show w9.ownsRow (w.heap.size+2) 3 1 v9 (k+1) (((l.take (k+1)).map Prod.fst).map (Value.int .i64)) by rw [HTk.out];exact hown);have HNb:=kp (show ∀ j,j < w.heap.size+2->some j≠(Value.slice Ao k co).ownBlock from fun j hj e=>by have:=(OD.out.lt j e.symm).1;omega);have B9:=kp (BD.out.grown hgr (by have:=BD.out.size;simpa using this) (fun j hj=>by have:=(OD.out.lt j hj).1;omega));have X9:=kp ((hgr.block _ (lt_of_block XD.out) (HNb.out _ (by omega))).trans XD.out);have R9:=kp ((hgr.block _ (lt_of_block RD.out) (HNb.out _ (by omega))).trans RD.out);have Z9:=kp (show w.heap.size+2<=w9.heap.size by have:=ZC.out;have:=hgr.size;simp at this;omega);clear hown hgr hat v0' v1' vf;go_wp2_with fail
     go_roundw
     case rel=>exact⟨k+1,by omega,by go_num,O9.out,B9.out,Z9.out,R9.out,X9.out⟩
     case measure=>simp [intOf];omega
    ·obtain rfl:k=l.length:=by omega
     have HCp:=kp (row_cap HO.out);have HCl:=kp (Cells.own HO.out);rw [List.take_length] at HCl;have HCall:=kp (HOp.out wr Ao co HCl.out HCp.out.1 HCp.out.2);have MR:=kp (hm.keep HB.out)
     cases hos:opS op (l.map Prod.fst) with
     | none =>
      obtain ⟨p1,p2⟩:=HOs.out.2 hos;rw [hos] at HS;generalize opProg op (l.map Prod.fst)=pr at *;obtain ⟨pa,pb⟩:=pr;have hpb:(pb != 0)=true:=by rw [bne_iff_ne];simp at p2;omega
      clear hos p1 p2;go_wp2_with fail
      refine HCall.out.mono ?_;rintro e w5 ⟨rfl,hb5⟩;have B5:=kp (HB.out.trans (hb5.mono HB.out.size));have R5:=kp (Bk.on RR.out hb5);have M5:=kp (MR.out.keep hb5);have HFl:=kp (fail_any hF M5.out 33 (by decide));clear hb5;go_wp2_with fail
      refine HFl.out.mono ?_;rintro e w6 ⟨rfl,hv,hk6,A6,c6,hm6,ht6⟩;have R6:=kp ((hk6.block w.heap.size (lt_of_block R5.out) (by unfold onMb;omega)).trans R5.out);have M6:=kp hm6;have K6:=kp ((Keeps.of_below B5.out (onMb F)).trans_same hk6);have HT6:=kp (ht6.mono B5.out.size);have HF6:=kp (Far.of_tn HFr.out ht6 (lt_of_block R5.out));have HSf:=kp (show failS 33 st={ st with e:=33 } by unfold failS;rw [if_pos HE0.out]);rw [HSf.out] at M6 HT6 HF6;unfold valV v0;clear hv hk6 hm6 ht6;obtain ⟨r0,r1,rf⟩:=Bk.c2 R6.out;go_wp2_with fail
      rw [HS.out];refine mk_end (v:=v0) hF Tryz.results46 M6.out hlt K6.out HT6.out nlq HF6.out R6.out ?_ ?_ v0_VI <;> rfl
     | some s =>
      have hp:=HOs.out.1 s hos;have hsi:=HSi.out s hos;rw [hp] at HCall;rw [hos] at HS;clear hos hp;go_wp2_with fail
      refine HCall.out.mono ?_;rintro e w5 ⟨rfl,hb5⟩;have B5:=kp (HB.out.trans (hb5.mono HB.out.size));have R5:=kp (Bk.on RR.out hb5);have X5:=kp (Bk.on XR.out hb5);have M5:=kp (MR.out.keep hb5);clear hb5;obtain ⟨x0,x1,x2,x3,x4,x5,x6,x7,xf⟩:=Bk.c8 X5.out;go_upto_region 17 with fail
      clear x0 x1 x2 x3 x4 x5 x6 x7 xf;have X6:=kp (show(w5.setCell ⟨w.heap.size+1,5,none⟩ (.int .i64 s)).heap[w.heap.size+1]?=some (.cells #[.int .i8 op,.int .i8 (l.length:Int),.int .i64 (argK l l.length 0),.int .i64 (argK l l.length 1),.int .i64 (argK l l.length 2),.int .i64 s,.int .i64 0,.int .i64 n] 55 (0,0)) from Bk.set_at X5.out 5 (.int .i64 s));have R6:=kp (Bk.apart R5.out (p:=⟨w.heap.size+1,5,none⟩) (by show w.heap.size≠w.heap.size+1;omega) (.int .i64 s));have M6:=kp (M5.out.other hF (by omega) HFx.out 5 (.int .i64 s));have B6:=kp (B5.out.setCell (p:=⟨w.heap.size+1,5,none⟩) (by show w.heap.size<=w.heap.size+1;omega) (.int .i64 s));generalize w5.setCell ⟨w.heap.size+1,5,none⟩ (.int .i64 s)=w6 at *;have HNI:=kp (show NodeI ⟨op,l.length,argK l l.length 0,argK l l.length 1,argK l l.length 2,s,0,n⟩ from⟨hop,by show I8 (l.length:Int);unfold I8;simp [Lit.wf];rw [show IntKind.i8.min=-128 by rfl,show IntKind.i8.max=127 by rfl];omega,(argK_full l 0).symm ▸ HNi.out 0,(argK_full l 1).symm ▸ HNi.out 1,(argK_full l 2).symm ▸ HNi.out 2,hsi,v0_VI.1,hn⟩);have HPut:=kp (put_any hF M6.out HNI.out);replace HS:=kp (show res=putM F.c ⟨op,l.length,argK l l.length 0,argK l l.length 1,argK l l.length 2,s,0,n⟩ st by rw [HS.out,argK_full,argK_full,argK_full];rfl);rw [← HS.out] at HPut;obtain ⟨x0,x1,x2,x3,x4,x5,x6,x7,xf⟩:=Bk.c8 X6.out;go_wp2_with fail
      refine HPut.out.mono ?_;rintro e w7 ⟨rfl,hv,hk7,A7,c7,hm7,ht7⟩;have R7:=kp ((hk7.block w.heap.size (lt_of_block R6.out) (by unfold onMb;omega)).trans R6.out);have M7:=kp hm7;have K7:=kp ((Keeps.of_below B6.out (onMb F)).trans_same hk7);have HT7:=kp (ht7.mono B6.out.size);have HF7:=kp (Far.of_tn HFr.out ht7 (lt_of_block R6.out));unfold valV;clear hk7 hm7 ht7 HS x0 x1 x2 x3 x4 x5 x6 x7 xf;obtain ⟨r0,r1,rf⟩:=Bk.c2 R7.out;go_wp2_with fail
      refine mk_end (v:=res.1) hF Tryz.results46 M7.out hlt K7.out HT7.out nlq HF7.out R7.out ?_ ?_ hv <;> rfl
 ·have he1:(st.e != 0)=true:=by simp [he0]
  replace HS:=kp (HS.out.trans (if_pos he0));clear he0;obtain ⟨r0,r1,rf⟩:=Bk.c2 RB.out;go_wp2_with fail
  rw [HS.out];refine mk_end (v:=v0) hF Tryz.results46 HM.out hlt HK.out (TN.refl _ _ _) nlq HFr.out RB.out ?_ ?_ v0_VI <;> rfl
end El
end Go.Proofs.YtpmdcckapddchaaGreat
