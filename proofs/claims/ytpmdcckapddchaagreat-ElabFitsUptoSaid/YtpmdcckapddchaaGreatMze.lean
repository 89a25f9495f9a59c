import Derived.Test.YtpmdcckapddchaaGreatShort
import Derived.Test.YtpmdcckapddchaaGreatMzd
import Derived.Test.YtpmdcckapddchaaGreatMzc
/- merged by wip/merge.py from: Rd7 -/
set_option maxRecDepth 100000
set_option maxHeartbeats 51200000
namespace Go.Proofs.YtpmdcckapddchaaGreat
namespace El
open Go.RowKit Dt Sg
theorem fun_len {g:Sig} (h:checkE g=0) {i:Nat} {f:Fun4} (hf:g.funs[i]?=some f):0<=f.len/\f.len<=3:=by
 have hfb:=fun_small h hf;unfold funB at hfb;simp only [Bool.and_eq_true,decide_eq_true_eq] at hfb;exact hfb.1.1.1.1
theorem node0_set {ln srt fn:Int} {k:Nat} (hk:k < 3):#[Value.int .i8 13,.int .i8 ln,.int .i64 0,.int .i64 0,.int .i64 0,.int .i64 srt,.int .i64 fn,.int .i64 0].setIfInBounds (2+k) (.int .i64 0)=#[Value.int .i8 13,.int .i8 ln,.int .i64 0,.int .i64 0,.int .i64 0,.int .i64 srt,.int .i64 fn,.int .i64 0]:=by
 have hc:k=0\/k=1\/k=2:=by omega
 rcases hc with rfl | rfl | rfl <;> simp
theorem vy_at {a:List V} {vs:List Vy} (h:a.map Prod.fst=vs.map Prod.snd) {k:Nat} {p:Vy} (hp:vs[k]?=some p):∃ v,a[k]?=some v/\v.1=p.2:=by
 have h1:(a.map Prod.fst)[k]?=some p.2:=by rw [h,List.getElem?_map,hp];rfl
 rw [List.getElem?_map] at h1
 cases ha:a[k]? with
 | none=>rw [ha] at h1;cases h1
 | some v=>rw [ha] at h1;exact⟨v,rfl,by simpa using h1⟩
theorem rapply_any {F:RFix} (hF:RFixOk F) {w:World} {st:St} (hm:RR F w st.e) {fi:Nat} {f:Fun4} (hf:F.g.funs[fi]?=some f) {L:Option Addr} {vs:List Vy} {a:List V} (cl:Nat) (hl:Lies 3 VarR w L vs) (hln:(vs.length:Int)=f.len) (hv:st.e=0->a.map Prod.fst=vs.map Prod.snd) :
  Calls Tryz.prog 151 #[.pointer (some ⟨F.rb,0,none⟩),.int .i64 (fi:Int),.slice L vs.length cl] w (RPost F w ((f.res,0),sortsM a [f.a0,f.a1,f.a2] st)):=by
 have D1:=kp (RMid.new hm);have L1:=kp (hl.on VarR.lasts ((brq w).alloc nlq (.cells #[.string { data:=#[] },.int .i64 0,.int .i64 0] 94)));have Z1:=kp (show(w.alloc (.cells #[.string { data:=#[] },.int .i64 0,.int .i64 0] 94)).heap.size=w.heap.size+1 by simp);obtain ⟨hl1,hl2,hl3⟩:=sig_lens hF.ok;have hfl:=fun_len hF.ok hf;obtain ⟨fb,fo,hA2,hfat,hfi⟩:=fun_get hF.sig.funs hf;have hflt:(fi:Int) < (F.g.funs.length:Int):=by have:=(gqs hf).1;omega
 have hfi2:(fi:Int)<=12:=by omega
 have HFA:=kp (fun W (hW:Below F.W0.heap.size F.W0 W)=>hfat.on hW);have hri:I64 f.res:=hfi.res;have hcv:IntKind.i8.wrap (vs.length:Int)=vs.length:=IntWalk.i8_in _ (by omega);have h3:vs.length<=3:=by omega
 have HVs:=kp hv;have HSt:=kp (fun h=>sorts_stick a [f.a0,f.a1,f.a2] st h);have HS:=kp (show sortsM a [f.a0,f.a1,f.a2] st=sortsM (a.drop 0) ([f.a0,f.a1,f.a2].drop 0) st from rfl);clear hm hl hfat hfi hv hln;generalize sortsM a [f.a0,f.a1,f.a2] st=res at *
 go_enter Tryz.func151,Tryz.ntmps151
 go_upto_region 1 with fail
 generalize w.alloc (.cells #[.string { data:=#[] },.int .i64 0,.int .i64 0] 94)=w1 at *;have hblk:=D1.out.rd.blk;rw [hA2] at hblk;obtain ⟨m0,m1,m2,m3,m4,m5,m6,m7,m8,mf⟩:=Bk.c9 hblk
 by_cases he0:st.e=0
 ·have he1:(st.e != 0)=false:=by simp [he0]
  have HV0:=kp (HVs.out he0);obtain ⟨hfl0,f0,f1,f2,f3,f4,f5⟩:=HFA.out w1 D1.out.rd.below;have HE0:=kp he0;clear he0 HSt;go_upto_region 4 with fail
  clear m0 m1 m2 m3 m4 m5 m6 m7 m8 mf f0 f1 f2 f3 f4 f5 hblk he1;have B2:=kp ((brq w1).alloc nlq (.cells #[.int .i8 13,.int .i8 (vs.length:Int),.int .i64 0,.int .i64 0,.int .i64 0,.int .i64 f.res,.int .i64 (fi:Int),.int .i64 0] 55));have X2:=kp (Bk.new w1 (.cells #[.int .i8 13,.int .i8 (vs.length:Int),.int .i64 0,.int .i64 0,.int .i64 0,.int .i64 f.res,.int .i64 (fi:Int),.int .i64 0] 55));generalize w1.alloc (.cells #[.int .i8 13,.int .i8 (vs.length:Int),.int .i64 0,.int .i64 0,.int .i64 0,.int .i64 f.res,.int .i64 (fi:Int),.int .i64 0] 55)=w2 at *;go_wp2_with fail
  go_loopw [8] (fun i' wr=>∃ k:Nat,k<=vs.length/\i'=.int .i64 k/\res=sortsM (a.drop k) ([f.a0,f.a1,f.a2].drop k) st/\Below w1.heap.size w1 wr/\wr.heap[w1.heap.size]?=some (.cells #[.int .i8 13,.int .i8 (vs.length:Int),.int .i64 0,.int .i64 0,.int .i64 0,.int .i64 f.res,.int .i64 (fi:Int),.int .i64 0] 55 (0,0))) (fun i' _=>vs.length - (intOf i').toNat)
  case atStart=>exact⟨0,Nat.zero_le _,rfl,HS.out,B2.out,X2.out⟩
  case round =>
   obtain ⟨k,hk,rfl,hres,hb,hx⟩:=hrel;have HRes:=kp hres;have HB:=kp hb;have XR:=kp hx;have DR:=kp (D1.out.below hb);clear hres hb hx
   by_cases hkl:k < vs.length
   ·have hlt2:(k:Int) < (vs.length:Int):=by omega
    have hk3:k < 3:=by omega
    have hk3i:(k:Int) < 3:=by omega
    obtain ⟨p,hp⟩:∃ p,vs[k]?=some p:=⟨_,gqe hkl⟩;obtain ⟨v,hav,hvp⟩:=vy_at HV0.out hp;obtain ⟨b,o,rfl,hbl,⟨e0,e1,e2⟩,_,hpi⟩:=var_get (L1.out.on VarR.lasts HB.out) hp;have HSs:=kp (HRes.out.trans (sortsM_step hk3 hav));have hfa:=(HFA.out wr DR.out.rd.below).arg hk3;have hblk:=DR.out.rd.blk;rw [hA2] at hblk;obtain ⟨_,m1,_⟩:=Bk.c9 hblk;have HPe:=kp hp;clear hp hblk
    by_cases hq:p.2=Fun4.arg f k
    ·have hq1:(p.2 != Fun4.arg f k)=false:=by rw [hq];simp
     have HQ:=kp (show res=sortsM (a.drop (k+1)) ([f.a0,f.a1,f.a2].drop (k+1)) st by
      rw [HSs.out];unfold sortStep;rw [if_neg (fun h=>h.2 (hvp.trans hq))])
     clear hq hav hvp;generalize Fun4.arg f k=fa at *;go_upto_region 7 with fail
     refine wp_region_held_drew (S:=fun W=>W.cell? ⟨b,o+k * 3+1,none⟩=some (.int .i64 p.2)/\W.cell? ⟨F.rb,1,none⟩=some (.slice (some ⟨fb,fo,none⟩) F.g.funs.length F.c2)/\W.cell? ⟨fb,fo+fi * 6+2+k,none⟩=some (.int .i64 fa)) (by kernel_rfl) (⟨e1,m1,hfa⟩) (fun hHeld=>?_);refine plz [0,1,2,3,4,5,6,7,8,9,10,11,12,13,14,15,16] ?_;iterate 17 (refine tnz (v:=?_) ?_ ?_;rotate_left;(focus (intro w hSw;go_simp;try with_reducible rfl));try simp only [pt])
     refine pzz ?_;refine dnz ?_;go_upto_region 9 with fail
     have HBd:=kp HB.out.drew;have XD:=kp (show wr.drew.heap[w1.heap.size]?=some (.cells #[.int .i8 13,.int .i8 (vs.length:Int),.int .i64 0,.int .i64 0,.int .i64 0,.int .i64 f.res,.int .i64 (fi:Int),.int .i64 0] 55 (0,0)) from XR.out);obtain ⟨b',o',hA,_,⟨g0,g1,g2⟩,_,_⟩:=var_get (L1.out.on VarR.lasts HBd.out) HPe.out;obtain ⟨rfl,rfl⟩:=aiq hA;generalize wr.drew=wd at *;have pk:=NodeAt.arg' (node_block (n:=⟨13,vs.length,0,0,0,f.res,fi,0⟩) XD.out) hk3;rw [Nat.zero_add] at pk;obtain ⟨_,_,_,_,_,_,_,_,xf⟩:=Bk.c8 XD.out;have XC:=kp (Bk.set_at XD.out (2+k) (.int .i64 0));rw [node0_set hk3] at XC;have BC:=kp (HBd.out.setCell (p:=⟨w1.heap.size,2+k,none⟩) nlq (.int .i64 0));clear hHeld e0 e1 e2 m1 hfa;go_wp2_with fail
     go_roundw
     case rel=>exact⟨k+1,by omega,by go_num,HQ.out,BC.out,XC.out⟩
     case measure=>simp [intOf];omega
    ·have hq1:(p.2 != Fun4.arg f k)=true:=by rw [bne_iff_ne];exact hq
     have HQ:=kp (show res={ st with e:=33 } by
      rw [HSs.out];unfold sortStep;rw [if_pos ⟨HE0.out,fun h=>hq (hvp.symm.trans h)⟩];exact sorts_stick _ _ _ (by show(33:Int)≠0;decide))
     clear hq hav hvp;generalize Fun4.arg f k=fa at *;go_upto_region 7 with fail
     refine wp_region_held_drew (S:=fun W=>W.cell? ⟨b,o+k * 3+1,none⟩=some (.int .i64 p.2)/\W.cell? ⟨F.rb,1,none⟩=some (.slice (some ⟨fb,fo,none⟩) F.g.funs.length F.c2)/\W.cell? ⟨fb,fo+fi * 6+2+k,none⟩=some (.int .i64 fa)) (by kernel_rfl) (⟨e1,m1,hfa⟩) (fun hHeld=>?_);refine plz [0,1,2,3,4,5,6,7,8,9,10,11,12,13,14,15,16] ?_;iterate 17 (refine tnz (v:=?_) ?_ ?_;rotate_left;(focus (intro w hSw;go_simp;try with_reducible rfl));try simp only [pt])
     refine pzz ?_;refine dnz ?_;clear e0 e1 e2 m1 hfa hHeld;have DD:=kp DR.out.drew;generalize wr.drew=wd at *;have HSf:=kp (show failS 33 st={ st with e:=33 } by unfold failS;rw [if_pos HE0.out]);have HFl:=kp (fails_any hF (st:=st) DD.out.rd 33);rw [HSf.out] at HFl;go_wp2_with fail
     refine HFl.out.mono ?_;rintro e w7 ⟨nm7,s7,rfl,hv7,hk7,hm7⟩;have D7:=kp (DD.out.call hk7 hm7);clear hk7 hm7;obtain ⟨r0,r1,r2,rf⟩:=Bk.c3 D7.out.cell;go_wp2_with fail
     rw [HQ.out];refine RMid.ret hF (q:=((f.res,0),{ st with e:=33 })) D7.out Tryz.results151 ?_ ?_ ⟨hv7.size,hv7.i64,fun h=>absurd (show(33:Int)=0 from h) (by decide)⟩ <;> rfl
   ·obtain rfl:k=vs.length:=by omega
    have hal:a.length=vs.length:=by have:=congrArg List.length HV0.out;simpa using this
    have HQ:=kp (show res=st by rw [HRes.out,List.drop_of_length_le (by omega)];unfold sortsM;rfl);obtain ⟨x0,x1,x2,x3,x4,x5,x6,x7,xf⟩:=Bk.c8 XR.out;have HP:=kp (rput_any hF DR.out.rd 13 vs.length 0 0 0 f.res fi 0 hri);go_wp2_with fail
    refine HP.out.mono ?_;rintro e w7 ⟨nm7,s7,rfl,hv7,hk7,hm7⟩;have D7:=kp (DR.out.call hk7 hm7);clear hk7 hm7;obtain ⟨r0,r1,r2,rf⟩:=Bk.c3 D7.out.cell;go_wp2_with fail
    rw [HQ.out];refine RMid.ret hF (q:=((f.res,0),st)) D7.out Tryz.results151 ?_ ?_ hv7 <;> rfl
 ·have he1:(st.e != 0)=true:=by simp [he0]
  have HQ:=kp (HSt.out he0);have hno:st.e≠0:=he0;obtain ⟨r0,r1,r2,rf⟩:=Bk.c3 D1.out.cell;go_wp2_with fail
  rw [HQ.out];refine RMid.ret hF (q:=((f.res,0),st)) D1.out Tryz.results151 ?_ ?_ (nil_ok (fun h=>absurd h hno)) <;> rfl
end El
end Go.Proofs.YtpmdcckapddchaaGreat
