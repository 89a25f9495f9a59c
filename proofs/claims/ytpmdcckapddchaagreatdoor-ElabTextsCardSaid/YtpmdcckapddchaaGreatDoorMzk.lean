import Derived.Test.YtpmdcckapddchaaGreatDoorShort
import Derived.Test.YtpmdcckapddchaaGreatDoorMzj
import Derived.Test.YtpmdcckapddchaaGreatDoorMx
import Derived.Test.YtpmdcckapddchaaGreatDoorMzb
import Derived.Test.YtpmdcckapddchaaGreatDoorMi
import Derived.Test.YtpmdcckapddchaaGreatDoorMzg
import Derived.Test.YtpmdcckapddchaaGreatDoorMg
import Derived.Defers
/- merged by wip/merge.py from: ElApply ElBack2 ElBack3 ElTree ElLet ElCall -/
set_option maxRecDepth 100000
set_option maxHeartbeats 51200000
namespace Go.Proofs.YtpmdcckapddchaaGreatDoor
namespace El
open Go.RowKit Go.Maps Dt Sg
theorem checkB_of {g:Sig} (h:checkE g=0):checkB g=true:=by
 cases hb:checkB g with
 | true=>rfl
 | false=>rw [checkE_false hb] at h;cases h
theorem allTo_get {p:Nat->Bool} {n k:Nat} (h:allTo p n=true) (hk:k < n):p k=true:=by
 cases hp:p k with
 | true=>rfl
 | false=>rw [allTo_stop hk hp] at h;cases h
theorem sig_lens {g:Sig} (h:checkE g=0):g.sorts.length<=4/\g.funs.length<=12/\g.macros.length<=12:=by
 have:=checkB_of h;unfold checkB at this;simp only [Bool.and_eq_true,decide_eq_true_eq] at this;exact⟨this.1.1.1,this.1.1.2,this.1.2⟩
theorem fun_small {g:Sig} (h:checkE g=0) {i:Nat} {f:Fun4} (hf:g.funs[i]?=some f):funB g.sorts.length f=true:=by
 have:=checkB_of h;unfold checkB at this;simp only [Bool.and_eq_true] at this;have h1:=allTo_get this.2.1.2 (gqs hf).1;unfold funOk at h1;rw [hf] at h1;simp only [Bool.and_eq_true] at h1;exact h1.2
theorem mac_small {g:Sig} (h:checkE g=0) {i:Nat} {m:Macro} (hm:g.macros[i]?=some m):macroB g.sorts.length m=true:=by
 have:=checkB_of h;unfold checkB at this;simp only [Bool.and_eq_true] at this;have h1:=allTo_get this.2.2 (gqs hm).1;unfold macOk at h1;rw [hm] at h1;simp only [Bool.and_eq_true] at h1;exact h1.2
theorem node_set {op ln srt fn n:Int} {l:List V} {k:Nat} {v:V} (hk:k < 3) (hv:l[k]?=some v) :
  #[Value.int .i8 op,.int .i8 ln,.int .i64 (argK l k 0),.int .i64 (argK l k 1),.int .i64 (argK l k 2),.int .i64 srt,.int .i64 fn,.int .i64 n].setIfInBounds (2+k) (.int .i64 v.2) =
  #[Value.int .i8 op,.int .i8 ln,.int .i64 (argK l (k+1) 0),.int .i64 (argK l (k+1) 1),.int .i64 (argK l (k+1) 2),.int .i64 srt,.int .i64 fn,.int .i64 n]:=by
 have hn:nthN l k=v.2:=by unfold nthN;rw [List.getD_eq_getElem?_getD,hv];rfl
 have hc:k=0\/k=1\/k=2:=by omega
 rcases hc with rfl | rfl | rfl <;> simp [argK,hn]
def sortStep (v:V) (s:Int) (st:St):St:=if st.e=0/\v.1≠s then { st with e:=33 } else st
theorem sortsM_step {vs:List V} {v:V} {k:Nat} {f:Fun4} {st:St} (hk:k < 3) (hv:vs[k]?=some v):sortsM (vs.drop k) ([f.a0,f.a1,f.a2].drop k) st=sortsM (vs.drop (k+1)) ([f.a0,f.a1,f.a2].drop (k+1)) (sortStep v (Fun4.arg f k) st):=by
 have hlt:=(gqs hv).1;rw [gqe hlt] at hv;have hd:vs.drop k=v :: vs.drop (k+1):=by rw [List.drop_eq_getElem_cons hlt];simp at hv;rw [hv]
 rw [hd];have hc:k=0\/k=1\/k=2:=by omega
 rcases hc with rfl | rfl | rfl <;> rfl
theorem apply_any {F:Fix} (hF:FixOk F) {known:Nat} {l:List Sexp} (hT:∀ y ∈ l,TermC F known y) {w:World} {st:St} {At:Option Addr} {ct:Nat} (hm:Mk F w known st At ct) {fi:Nat} {f:Fun4} (hf:F.c.g.funs[fi]?=some f) {A:Option Addr} (c:Nat) (hl:Lies 3 SexpR F.W0 A l) (hll:l.length<=3000000) {p:Option Addr} {env:Env} (he:EnvS F w p env) :
  Calls Tryz.prog 98 #[.pointer (some ⟨F.mb,0,none⟩),.int .i64 (fi:Int),.slice A l.length c,.pointer p] w (MkPost F known w st.t At (applyM F.c (fun y=>termP F.c known y env) f fi l st).1 (applyM F.c (fun y=>termP F.c known y env) f fi l st).2):=by
 have HL:=kp hl;have HE:=kp he;have hlt:=hm.lt;have D1:=kp (Mid.new hm);generalize hr:(fun y=>termP F.c known y env)=r
 have HS:=kp (show applyM F.c r f fi l st=if(l.length:Int)≠f.len then(v0,failS 30 st)
  else putM F.c ⟨13,f.len,nthN (allM r l st).1 0,nthN (allM r l st).1 1,nthN (allM r l st).1 2,f.res,fi,0⟩ (sortsM (allM r l st).1 [f.a0,f.a1,f.a2] (allM r l st).2) from rfl)
 have HAl:=kp (fun(W:World) (A':Option Addr) (c':Nat) (h:Mid F known w st.t At w.heap.size W st A' c')=>show Calls Tryz.prog 96 #[.pointer (some ⟨F.mb,0,none⟩),.slice A l.length c,.pointer p] W (AllPost F known W st.t A' (allM r l st).1 (allM r l st).2) by
  have:=all_any hF hT h.maker c hl hll (he.on h.keeps)
  rwa [hr] at this)
 have HVl:=kp (allM_len r l st);have hfb:=fun_small hF.ok hf;obtain ⟨hl1,hl2,hl3⟩:=sig_lens hF.ok
 have hfl:0<=f.len/\f.len<=3:=by
  unfold funB at hfb;simp only [Bool.and_eq_true,decide_eq_true_eq] at hfb;exact hfb.1.1.1.1
 obtain ⟨fb,fo,hA2,hfat,hfi⟩:=fun_get hF.sig.funs hf;have hflt:(fi:Int) < (F.c.g.funs.length:Int):=by have:=(gqs hf).1;omega
 have hfi2:(fi:Int)<=12:=by omega
 have HFA:=kp (fun W (hW:Below F.W0.heap.size F.W0 W)=>hfat.on hW);have HFI:=kp hfi;have hA2':=hA2;clear hm hl he hT hfb hfat hfi hr hf;generalize applyM F.c r f fi l st=res at *;generalize allM r l st=al at *
 go_enter Tryz.func98,Tryz.ntmps98
 go_upto_region 1 with fail
 generalize w.alloc (.cells #[.int .i64 0,.int .i64 0] 82)=w1 at *;have hblk:=D1.out.maker.blk;rw [hA2] at hblk;obtain ⟨m0,m1,m2,m3,m4,m5,m6,m7,m8,mf⟩:=Bk.c9 hblk;obtain ⟨hfl0,f0,f1,f2,f3,f4,f5⟩:=HFA.out w1 D1.out.maker.below
 by_cases h1:(l.length:Int)=f.len
 ·have g1:((l.length:Int) != f.len)=false:=by rw [h1];simp
  replace HS:=kp (HS.out.trans (if_neg (fun h=>h h1)));have hl3':l.length<=3:=by omega
  have hcv:IntKind.i8.wrap f.len=f.len:=IntWalk.i8_in _ (by omega);have HLn:=kp h1;clear h1;go_upto_region 4 with fail
  clear m0 m1 m2 m3 m4 m5 m6 m7 m8 mf f0 f1 f2 f3 f4 f5 hblk
  go_cut [10] from 29 to 39 (fun v10 W=>∃ xb,v10=.pointer (some ⟨xb,0,none⟩)/\W.heap[xb]?=some (.cells #[.int .i8 13,.int .i8 f.len,.int .i64 0,.int .i64 0,.int .i64 0,.int .i64 f.res,.int .i64 (fi:Int),.int .i64 0] 49 (0,0))/\w1.heap.size<=xb/\Below w1.heap.size w1 W)
  case first =>
   have B0:=kp (brq w1).drew;have HFw:=kp (fun W (hW:Below w1.heap.size w1 W)=>HFA.out W (D1.out.below hW).maker.below);refine wp_region_held_drew (S:=fun W=>Below w1.heap.size w1 W) (by kernel_rfl) (B0.out) (fun hHeld=>?_);refine plz [0,1,2,3,4,5,6,7,8,9,10] ?_;iterate 11 (refine tnz (v:=?_) ?_ ?_;rotate_left;(focus first | ((intro w hSw;go_simp;try with_reducible rfl);done) | ((intro w hSw;(obtain ⟨hfl0,f0,f1,f2,f3,f4,f5⟩:=HFw.out _ hSw;go_simp;try with_reducible rfl));done));try simp only [pt])
   refine pzz ?_;generalize hwd:World.drew _=wd at *;clear hwd;have BA:=kp (B0.out.alloc B0.out.size (.cells #[.int .i8 0,.int .i8 0,.int .i64 0,.int .i64 0,.int .i64 0,.int .i64 0,.int .i64 0,.int .i64 0] 49));have XA:=kp (Bk.new wd (.cells #[.int .i8 0,.int .i8 0,.int .i64 0,.int .i64 0,.int .i64 0,.int .i64 0,.int .i64 0,.int .i64 0] 49));have hxs:=B0.out.size;refine rd 11 fun K hK=>?_;go_simp;refine hK.out _ _ (BA.out) (fun hHeld=>?_);clear hK K;try simp only [pt]
   generalize wd.alloc (.cells #[.int .i8 0,.int .i8 0,.int .i64 0,.int .i64 0,.int .i64 0,.int .i64 0,.int .i64 0,.int .i64 0] 49)=wa at *;generalize wd.heap.size=xb at *;obtain ⟨x0,x1,x2,x3,x4,x5,x6,x7,xf⟩:=Bk.c8 XA.out;have BC:=kp ((((((((BA.out.setCell (p:=⟨xb,0,none⟩) hxs (.int .i8 13)).setCell (p:=⟨xb,1,none⟩) hxs (.int .i8 f.len)).setCell (p:=⟨xb,2,none⟩) hxs (.int .i64 0)).setCell (p:=⟨xb,3,none⟩) hxs (.int .i64 0)).setCell (p:=⟨xb,4,none⟩) hxs (.int .i64 0)).setCell (p:=⟨xb,5,none⟩) hxs (.int .i64 f.res)).setCell (p:=⟨xb,6,none⟩) hxs (.int .i64 (fi:Int))).setCell (p:=⟨xb,7,none⟩) hxs (.int .i64 0));refine rd 12 fun K hK=>?_;go_simp;refine hK.out _ _ (BC.out) (fun hHeld=>?_);clear hK K;try simp only [pt]
   refine dnz ?_;go_wp2_with fail
   go_meet;exact⟨_,rfl,Bk.set_at (Bk.set_at (Bk.set_at (Bk.set_at (Bk.set_at (Bk.set_at (Bk.set_at (Bk.set_at XA.out 0 _) 1 _) 2 _) 3 _) 4 _) 5 _) 6 _) 7 _,hxs,BC.out⟩
  case rest =>
   obtain ⟨xb,rfl,hx,hxs,hb⟩:=hcut;have D2:=kp (D1.out.below hb);have X2:=kp hx;have FX2:=kp (show Far xb st.t At from D1.out.fresh hxs);have hxb:w.heap.size+1<=xb:=Nat.le_trans D1.out.size hxs;have hxw:=lt_of_block hx;clear hx hb;generalize hwb:wc=wb at *;clear hwb;have HA2:=kp (HAl.out _ _ _ D2.out);obtain ⟨vs,sa⟩:=al;go_wp2_with fail
   refine HA2.out.mono ?_;rintro e w3 ⟨L3,cl3,rfl,hcl3,hcm3,hv3,hk3,A3,c3,hm3,ht3⟩;have D3:=kp (D2.out.call hk3 hm3 ht3);have X3:=kp (D2.out.blk hk3 X2.out (by omega));have FX3:=kp (Far.of_tn FX2.out ht3 (lt_of_block X2.out));have V3:=kp hv3;have hvl3:vs.length<=3:=by have:=HVl.out;omega
   clear hv3 hk3 hm3 ht3 HA2 HAl D1 D2 X2 FX2;go_wp2_with fail
   go_loopw [45] (fun i' wr=>∃ k:Nat,k<=vs.length/\i'=.int .i64 k/\∃ (st':St) (A':Option Addr) (c':Nat),sortsM vs [f.a0,f.a1,f.a2] sa=sortsM (vs.drop k) ([f.a0,f.a1,f.a2].drop k) st'/\Mid F known w st.t At w.heap.size wr st' A' c'/\wr.heap[xb]?=some (.cells #[.int .i8 13,.int .i8 f.len,.int .i64 (argK vs k 0),.int .i64 (argK vs k 1),.int .i64 (argK vs k 2),.int .i64 f.res,.int .i64 (fi:Int),.int .i64 0] 49 (0,0))/\Far xb st'.t A'/\ValsN wb.heap.size wr L3 vs) (fun i' _=>vs.length - (intOf i').toNat)
   case atStart=>exact⟨0,Nat.zero_le _,rfl,sa,A3,c3,rfl,D3.out,X3.out,FX3.out,V3.out⟩
   case round =>
    obtain ⟨k,hk,rfl,st',A',c',hso,hmid,hxr,hfx,hvs⟩:=hrel;have HSo:=kp hso;have DR:=kp hmid;have XR:=kp hxr;have FX:=kp hfx;have VR:=kp hvs;clear hso hmid hxr hfx hvs
    by_cases hkl:k < vs.length
    ·have hlt2:(k:Int) < (vs.length:Int):=by omega
     have hk3:k < 3:=by omega
     have hk3':(k:Int) < 3:=by omega
     obtain ⟨v,hv⟩:∃ v,vs[k]?=some v:=⟨_,gqe hkl⟩;obtain ⟨b,o,rfl,hbl,e0,e1,hvi⟩:=val_get VR.out.now hv;have HSt:=kp (sortsM_step (f:=f) (st:=st') hk3 hv);have HSet:=kp (node_set (op:=13) (ln:=f.len) (srt:=f.res) (fn:=(fi:Int)) (n:=0) hk3 hv);have BA:=kp ((brq wr).alloc nlq (.cells #[.int .i64 v.1,.int .i64 v.2] 82));have DA:=kp (DR.out.below BA.out);have XA:=kp (Bk.on XR.out BA.out);have VA:=kp (VR.out.below BA.out);have YA:=kp (Bk.new wr (.cells #[.int .i64 v.1,.int .i64 v.2] 82));have hvb:=DR.out.keeps.size;have hxv:=lt_of_block XR.out;clear hv BA hvi;go_upto_region 8 with fail
     generalize wr.alloc (.cells #[.int .i64 v.1,.int .i64 v.2] 82)=wa at *;generalize wr.heap.size=vb at *;clear e0 e1;have B0:=kp (brq wa).drew;have HMw:=kp (fun W (hW:Below wa.heap.size wa W)=>(DA.out.below hW).maker.blk);have HFw:=kp (fun W (hW:Below wa.heap.size wa W)=>show W.cell? ⟨fb,fo+fi * 6+2+k,none⟩=some (.int .i64 (Fun4.arg f k)) from FunAt.arg (HFA.out W (DA.out.below hW).maker.below) hk3);have DD:=kp DA.out.drew;have XD:=kp (Bk.on XA.out B0.out);have VD:=kp (VA.out.below B0.out);have YD:=kp (Bk.on YA.out B0.out)
     by_cases he:st'.e=0
     ·have he1:(st'.e == 0)=true:=by simp [he]
      refine wp_region_held_drew (S:=fun W=>Below wa.heap.size wa W) (by kernel_rfl) (B0.out) (fun hHeld=>?_);refine plz [0,1,2,3,4,5,6,7,8,9,10,11,12,13,14,15] ?_;iterate 16 (refine tnz (v:=?_) ?_ ?_;rotate_left;(focus first | ((intro w hSw;go_simp;try with_reducible rfl);done) | ((intro w hSw;(obtain ⟨m0,m1,m2,m3,m4,m5,m6,m7,m8,mf⟩:=Bk.c9 (HMw.out _ hSw);go_simp;try with_reducible rfl));done) | ((intro w hSw;(obtain ⟨y0,y1,yf⟩:=Bk.c2 (Bk.on YA.out hSw);go_simp;try with_reducible rfl));done) | ((intro w hSw;(have p0:=HFw.out _ hSw;go_simp;try with_reducible rfl));done));try simp only [pt])
      refine pzz ?_;refine dnz ?_
      by_cases hs:v.1=Fun4.arg f k
      ·have hs1:(v.1 != Fun4.arg f k)=false:=by simp [hs]
       have HN:=kp (show sortStep v (Fun4.arg f k) st'=st' by unfold sortStep;rw [if_neg (fun h=>h.2 hs)]);rw [HN.out,← HSo.out] at HSt;have D5:=DD;have X5:=XD;have V5:=VD;have Y5:=YD;have F5:=FX;clear he he1 hs;generalize World.drew _=w5 at *;have pk:=NodeAt.arg' (node_block (n:=⟨13,f.len,argK vs k 0,argK vs k 1,argK vs k 2,f.res,(fi:Int),0⟩) X5.out) hk3;rw [Nat.zero_add] at pk;obtain ⟨_,_,_,_,_,_,_,_,xf⟩:=Bk.c8 X5.out;obtain ⟨y0,y1,yf⟩:=Bk.c2 Y5.out;have D6:=kp (D5.out.other hF (k:=xb) (by omega) (by omega) F5.out (2+k) (.int .i64 v.2));have X6:=kp (Bk.set_at X5.out (2+k) (.int .i64 v.2));rw [HSet.out] at X6;have V6:=kp (V5.out.set (p:=⟨xb,2+k,none⟩) (.int .i64 v.2) hxw);go_wp2_with fail
       go_roundw
       case rel=>exact⟨k+1,by omega,by go_num,st',A',c',HSt.out,D6.out,X6.out,F5.out,V6.out⟩
       case measure=>simp [intOf];omega
      ·have hs1:(v.1 != Fun4.arg f k)=true:=by rw [bne_iff_ne];exact hs
       have HN:=kp (show sortStep v (Fun4.arg f k) st'=failS 33 st' by unfold sortStep failS;rw [if_pos ⟨he,hs⟩,if_pos he]);rw [HN.out,← HSo.out] at HSt;have HFl:=kp (fail_any hF DD.out.maker 33 (by decide));clear he he1 hs;generalize World.drew _=w4 at *;go_wp2_with fail
       refine HFl.out.mono ?_;rintro e w5 ⟨rfl,hv,hk5,A5,c5,hm5,ht5⟩;have D5:=kp (DD.out.call hk5 hm5 ht5);have X5:=kp (DD.out.blk hk5 XD.out (by omega));have V5:=kp (VD.out.keep hk5 (by omega));have Y5:=kp (DD.out.blk hk5 YD.out hvb);have F5:=kp (Far.of_tn FX.out ht5 (lt_of_block XD.out));clear hv hk5 hm5 ht5;have pk:=NodeAt.arg' (node_block (n:=⟨13,f.len,argK vs k 0,argK vs k 1,argK vs k 2,f.res,(fi:Int),0⟩) X5.out) hk3;rw [Nat.zero_add] at pk;obtain ⟨_,_,_,_,_,_,_,_,xf⟩:=Bk.c8 X5.out;obtain ⟨y0,y1,yf⟩:=Bk.c2 Y5.out;have D6:=kp (D5.out.other hF (k:=xb) (by omega) (by omega) F5.out (2+k) (.int .i64 v.2));have X6:=kp (Bk.set_at X5.out (2+k) (.int .i64 v.2));rw [HSet.out] at X6;have V6:=kp (V5.out.set (p:=⟨xb,2+k,none⟩) (.int .i64 v.2) hxw);go_wp2_with fail
       go_roundw
       case rel=>exact⟨k+1,by omega,by go_num,(failS 33 st'),A5,c5,HSt.out,D6.out,X6.out,F5.out,V6.out⟩
       case measure=>simp [intOf];omega
     ·have he1:(st'.e == 0)=false:=by simp [he]
      have HN:=kp (show sortStep v (Fun4.arg f k) st'=st' by unfold sortStep;rw [if_neg (fun h=>he h.1)]);rw [HN.out,← HSo.out] at HSt;refine wp_region_held_drew (S:=fun W=>Below wa.heap.size wa W) (by kernel_rfl) (B0.out) (fun hHeld=>?_);refine plz [0,1,2,3,4,5] ?_;iterate 6 (refine tnz (v:=?_) ?_ ?_;rotate_left;(focus first | ((intro w hSw;go_simp;try with_reducible rfl);done) | ((intro w hSw;(obtain ⟨m0,m1,m2,m3,m4,m5,m6,m7,m8,mf⟩:=Bk.c9 (HMw.out _ hSw);go_simp;try with_reducible rfl));done));try simp only [pt])
      refine pzz ?_;refine sk 6 ?_;try simp only [pt]
      refine sk 7 ?_;try simp only [pt]
      refine sk 8 ?_;try simp only [pt]
      refine sk 9 ?_;try simp only [pt]
      refine sk 10 ?_;try simp only [pt]
      refine sk 11 ?_;try simp only [pt]
      refine sk 12 ?_;try simp only [pt]
      refine sk 13 ?_;try simp only [pt]
      refine sk 14 ?_;try simp only [pt]
      refine tk 15 (v:=?_) ?_ ?_;rotate_left
      ·(intro w hSw;go_simp;try with_reducible rfl)
      try simp only [pt]
      refine dnz ?_;have D5:=DD;have X5:=XD;have V5:=VD;have Y5:=YD;have F5:=FX;clear he he1;generalize World.drew _=w5 at *;have pk:=NodeAt.arg' (node_block (n:=⟨13,f.len,argK vs k 0,argK vs k 1,argK vs k 2,f.res,(fi:Int),0⟩) X5.out) hk3;rw [Nat.zero_add] at pk;obtain ⟨_,_,_,_,_,_,_,_,xf⟩:=Bk.c8 X5.out;obtain ⟨y0,y1,yf⟩:=Bk.c2 Y5.out;have D6:=kp (D5.out.other hF (k:=xb) (by omega) (by omega) F5.out (2+k) (.int .i64 v.2));have X6:=kp (Bk.set_at X5.out (2+k) (.int .i64 v.2));rw [HSet.out] at X6;have V6:=kp (V5.out.set (p:=⟨xb,2+k,none⟩) (.int .i64 v.2) hxw);go_wp2_with fail
      go_roundw
      case rel=>exact⟨k+1,by omega,by go_num,st',A',c',HSt.out,D6.out,X6.out,F5.out,V6.out⟩
      case measure=>simp [intOf];omega
    ·obtain rfl:k=vs.length:=by omega
     have HSo2:=kp (show sortsM vs [f.a0,f.a1,f.a2] sa=st' by rw [HSo.out,List.drop_length];unfold sortsM;rfl);replace HS:=kp (show res=putM F.c ⟨13,f.len,argK vs vs.length 0,argK vs vs.length 1,argK vs vs.length 2,f.res,fi,0⟩ st' by rw [HS.out,argK_full,argK_full,argK_full,HSo2.out]);have HNi:=nthN_i64 (lies_vi VR.out.now);have HNI:=kp (show NodeI ⟨13,f.len,argK vs vs.length 0,argK vs vs.length 1,argK vs vs.length 2,f.res,fi,0⟩ from⟨I8.of (n:=13) (by decide) (by decide),I8.of (n:=f.len) hfl.1 (by omega),(argK_full vs 0).symm ▸ HNi 0,(argK_full vs 1).symm ▸ HNi 1,(argK_full vs 2).symm ▸ HNi 2,HFI.out.res,⟨by show -9223372036854775808<=(fi:Int);omega,by show(fi:Int)<=9223372036854775807;omega⟩,v0_VI.1⟩);have HPut:=kp (put_any hF DR.out.maker HNI.out);rw [← HS.out] at HPut;obtain ⟨x0,x1,x2,x3,x4,x5,x6,x7,xf⟩:=Bk.c8 XR.out;clear HNi;go_wp2_with fail
     refine HPut.out.mono ?_;rintro e w7 ⟨rfl,hv,hk7,A7,c7,hm7,ht7⟩;have D7:=kp (DR.out.call hk7 hm7 ht7);unfold valV;clear hk7 hm7 ht7 x0 x1 x2 x3 x4 x5 x6 x7 xf;obtain ⟨r0,r1,rf⟩:=Bk.c2 D7.out.cell;go_wp2_with fail
     refine D7.out.ret (v:=res.1) hF Tryz.results98 ?_ ?_ hv <;> rfl
 ·have g1:((l.length:Int) != f.len)=true:=by rw [bne_iff_ne];exact h1
  replace HS:=kp (HS.out.trans (if_pos h1));have HFl:=kp (fail_any hF D1.out.maker 30 (by decide));clear h1;go_wp2_with fail
  refine HFl.out.mono ?_;rintro e w7 ⟨rfl,hv,hk7,A7,c7,hm7,ht7⟩;have D7:=kp (D1.out.call hk7 hm7 ht7);unfold valV v0;clear hk7 hm7 ht7 m0 m1 m2 m3 m4 m5 m6 m7 m8 mf f0 f1 f2 f3 f4 f5;obtain ⟨r0,r1,rf⟩:=Bk.c2 D7.out.cell;go_wp2_with fail
  rw [HS.out];refine D7.out.ret (v:=v0) hF Tryz.results98 ?_ ?_ v0_VI <;> rfl
end El
namespace El
open Go.RowKit Dt Sg
theorem fun_name' {g:Sig} {k:Nat} {f:Fun4} (hg:checkE g=0) (hf:g.funs[k]?=some f):Lx.mayB (Lx.bs f.name)=true/\Lx.resB (Lx.bs f.name)=false/\coreB (Lx.bs f.name)=false/\hasB ((g.funs.map Fun4.name).take k) f.name=false:=by
 unfold checkE at hg
 split at hg
 ·rename_i hb
  unfold checkB at hb;simp only [Bool.and_eq_true] at hb;have h1:=hb.2.1.2;unfold allTo at h1;rw [List.all_eq_true] at h1;have h2:=h1 k (List.mem_range.2 (gqs hf).1);unfold funOk at h2;rw [hf] at h2;simp only [Bool.and_eq_true,Bool.not_eq_true',Bool.or_eq_false_iff] at h2;have h3:=h2.1.1;unfold usableB at h3;simp only [Bool.and_eq_true,Bool.not_eq_true'] at h3;exact⟨h3.1,h3.2,h2.1.2.2,h2.1.2.1⟩
 ·cases hg
section
variable {g:Sig} {t:List Node} {k:Nat} {n:Node} {c:Cx}
theorem app_fun (h:tableE g t=0) (hn:t[k]?=some n) (h13:n.op=13):∃ (j:Nat) (f:Fun4),n.fn=(j:Int)/\g.funs[j]?=some f/\n.len=f.len/\f.res=n.sort/\argsB f (sortsTo t n n.len.toNat)=true:=by
 obtain ⟨hst,hsp⟩:=table_node h hn;have ho:=node_ok hst;unfold sortProg at hsp;rw [if_pos h13] at hsp;unfold appProg at hsp;have h3:=ho.len
 by_cases hr:n.fn < 0\/(g.funs.length:Int)<=n.fn
 ·rw [if_pos hr] at hsp;exact absurd (congrArg Prod.snd hsp) (show ¬ (2:Int)=0 by decide)
 ·rw [if_neg hr] at hsp
  cases hf:g.funs[n.fn.toNat]? with
  | none =>
   rw [hf] at hsp;exact absurd (congrArg Prod.snd hsp) (show ¬ (2:Int)=0 by decide)
  | some f =>
   rw [hf] at hsp;simp only [sortsTo_len] at hsp
   by_cases hl:(n.len.toNat:Int)≠f.len
   ·rw [if_pos hl] at hsp;exact absurd (congrArg Prod.snd hsp) (show ¬ (2:Int)=0 by decide)
   ·rw [if_neg hl] at hsp
    by_cases ha:argsB f (sortsTo t n n.len.toNat)=true
    ·rw [if_pos ha] at hsp;exact⟨n.fn.toNat,f,by omega,hf,by omega,congrArg Prod.fst hsp,ha⟩
    ·rw [if_neg ha] at hsp;exact absurd (congrArg Prod.snd hsp) (show ¬ (33:Int)=0 by decide)
end
end El
namespace El
open Go.RowKit Dt Sg
section
variable {g:Sig} {t:List Node} {k:Nat} {n:Node} {c:Cx}
theorem fun_name_at (h:tableE g t=0) (hn:t[k]?=some n) (h13:n.op=13):∃ (j:Nat) (f:Fun4),n.fn=(j:Int)/\g.funs[j]?=some f/\funName g n.fn=f.name/\Lx.resB (Lx.bs f.name)=false/\coreB (Lx.bs f.name)=false/\findAt (g.funs.map Fun4.name) f.name=j/\hasB (g.funs.map Fun4.name) f.name=true:=by
 obtain ⟨j,f,hj,hf,_⟩:=app_fun h hn h13;have hnm:=fun_name' (table_parts.1 h).1 hf;have hst:=findAt_stop (l:=g.funs.map Fun4.name) (k:=j) (s:=f.name) (by rw [List.getElem?_map,hf];rfl) hnm.2.2.2;refine⟨j,f,hj,hf,?_,hnm.2.1,hnm.2.2.1,hst.1,hst.2⟩;unfold funName;rw [hj];show(g.funs[j]?.map Fun4.name).getD _=_;rw [hf]
 rfl
end
end El
namespace El
open Go.RowKit Dt Sg
section
variable {g:Sig} {t:List Node} {k:Nat} {n:Node}
theorem treeN_get {a:Int} (h0:0<=a) (ha:a < k) (hk:k<=t.length):(trees t k).getD a.toNat 0=treeN t a:=by
 unfold treeN;rw [trees_at t (by omega),trees_at t (by omega)]
theorem treeN_eq (ha:Ahead t) (hn:t[k]?=some n):treeN t (k:Int)=min ((((argsOf n).map (treeN t)).foldl (·+·) 0)+1) 1073741824:=by
 have hk:=(gqs hn).1;unfold treeN;show(trees t t.length).getD k 0=_;rw [trees_at t hk,nodeAt_get hn];unfold treeStep
 have:(argsOf n).map (fun a=>(trees t k).getD a.toNat 0)=(argsOf n).map (treeN t):=List.map_congr_left fun a hm=>by
  have hb:=ha k n hn a hm;exact treeN_get hb.1 hb.2 (by omega)
 rw [this]
 rfl
theorem foldl_ge:∀ (l:List Int) (s:Int),l.foldl (·+·) s=s+l.foldl (·+·) 0
 | [],s=>by simp
 | x :: l,s=>by
  simp only [List.foldl_cons];rw [foldl_ge l (s+x),foldl_ge l (0+x)]
  omega
theorem tree_pos (ha:Ahead t):∀ k:Nat,k < t.length->1<=treeN t (k:Int):=by
 intro k
 induction k using Nat.strongRecOn with
 | _ k ih =>
  intro hk;obtain ⟨n,hn⟩:∃ n,t[k]?=some n:=⟨_,gqe hk⟩;rw [treeN_eq ha hn]
  have hs:0<=((argsOf n).map (treeN t)).foldl (·+·) 0:=by
   have h:∀ l:List Int,(∀ a ∈ l,0<=a/\a < k)->0<=(l.map (treeN t)).foldl (·+·) 0:=fun l=>by
    induction l with
    | nil=>intro _;simp
    | cons a l ihl =>
     intro hl;have hb:=hl a (by simp);have h1:=ih a.toNat (by omega) (by omega);have e:((a.toNat:Nat):Int)=a:=by omega
     rw [e] at h1;have h2:=ihl (fun b hb=>hl b (by simp [hb]));rw [List.map_cons,List.foldl_cons,foldl_ge]
     omega
   exact h _ (fun a hm=>ha k n hn a hm)
  omega
theorem rests_len (B:Int->Int):∀ (l:List Int),(∀ a ∈ l,((exprX g t a).textL.length:Int)+1<=B a)->((Sexp.restsL (l.map (exprX g t))).length:Int)<=(l.map B).foldl (·+·) 0
 | [],_=>by simp [Sexp.restsL]
 | a :: l,h=>by
  have h1:=h a (by simp);have h2:=rests_len B l (fun b hb=>h b (by simp [hb]));rw [List.map_cons,List.map_cons,List.foldl_cons,foldl_ge,Sexp.restsL];simp only [List.length_cons,List.length_append]
  omega
theorem foldl_mul (c:Int):∀ (l:List Int),(l.map fun x=>c * x).foldl (·+·) 0=c * l.foldl (·+·) 0
 | []=>by simp
 | x :: l=>by
  rw [List.map_cons,List.foldl_cons,List.foldl_cons,foldl_ge,foldl_ge l (0+x),foldl_mul c l,Int.mul_add];simp
theorem itoa_le {n:Int} (hm:mayB n=true):(Lib.itoa n).length<=21/\(Lib.itoa (-n)).length<=21:=by
 have h:=mayB_iff.1 hm;exact⟨Lib.itoa_length_le n (by omega) (by omega),Lib.itoa_length_le (-n) (by omega) (by omega)⟩
theorem num_len {n:Int} (hm:mayB n=true):(numX n).textL.length<=25:=by
 rw [num_text];have h:=itoa_le hm
 split
 ·simp only [List.length_append,List.length_cons,List.length_nil]
  omega
 ·omega
theorem name_len {s:ByteArray} (h:Lx.mayB (Lx.bs s)=true):(Lx.quoteL (Lx.bs s)).length<=102:=by
 have hl:(Lx.bs s).length<=100:=by
  unfold Lx.mayB at h;simp only [Bool.and_eq_true,decide_eq_true_eq] at h
  first | exact h.1.2 | exact h.1.1.2 | exact h.2 | exact h.1 | omega
 unfold Lx.quoteL
 split
 ·omega
 ·simp only [List.length_cons,List.length_append,List.length_nil]
  omega
theorem word_len (op:Int):(wordL op).length<=3:=by
 unfold wordL opName
 repeat' split
 all_goals decide
theorem text_len (h:tableE g t=0):∀ k:Nat,k < t.length->treeN t (k:Int)<=1000000->((exprX g t k).textL.length:Int)+1<=200 * treeN t (k:Int):=by
 have ha:=ahead_of h;intro k
 induction k using Nat.strongRecOn with
 | _ k ih =>
  intro hk htk;obtain ⟨n,hn⟩:∃ n,t[k]?=some n:=⟨_,gqe hk⟩;have hst:=(table_node h hn).1;have ho:=node_ok hst;have he:=treeN_eq ha hn;have hsum:(((argsOf n).map (treeN t)).foldl (·+·) 0)+1=treeN t (k:Int):=by omega
  have hall:∀ a ∈ argsOf n,treeN t a<=1000000:=fun a hm=>by
   have hpos:∀ l:List Int,(∀ b ∈ l,0<=b/\b < k)->0<=(l.map (treeN t)).foldl (·+·) 0/\∀ b ∈ l,treeN t b<=(l.map (treeN t)).foldl (·+·) 0:=fun l=>by
    induction l with
    | nil=>intro _;exact⟨by simp,fun b hb=>by cases hb⟩
    | cons x l ihl =>
     intro hl;have hb:=hl x (by simp);have h1:=tree_pos ha x.toNat (by omega);have e:((x.toNat:Nat):Int)=x:=by omega
     rw [e] at h1;have h2:=ihl (fun b hb=>hl b (by simp [hb]));rw [List.map_cons,List.foldl_cons,foldl_ge];refine⟨by omega,fun b hb=>?_⟩;rcases List.mem_cons.1 hb with rfl | hb
     ·omega
     ·have:=h2.2 b hb
      omega
   have:=(hpos _ (fun b hb=>ha k n hn b hb)).2 a hm
   omega
  have hr:=rests_len (g:=g) (t:=t) (fun a=>200 * treeN t a) (argsOf n) (fun a hm=>by
   have hb:=ha k n hn a hm
   have := ih a.toNat (by omega) (by omega) (by have := hall a hm; have e : ((a.toNat : Nat) : Int) = a := by omega
                                                rw [e];exact this)
   have e:((a.toNat:Nat):Int)=a:=by omega
   rw [e] at this;exact this)
  have hm2:((argsOf n).map fun a=>200 * treeN t a).foldl (·+·) 0=200 * ((argsOf n).map (treeN t)).foldl (·+·) 0:=by
   rw [← foldl_mul,List.map_map]
   rfl
  rw [hm2] at hr;rw [exprX_eq ha hn];generalize (argsOf n).map (exprX g t)=xs at *
  by_cases h0:n.op=0
  ·rw [text_true h0];simp only [List.length_cons,List.length_nil]
   omega
  by_cases h10:n.op=10
  ·rw [text_num h10];have:=num_len (ho.num (.inl h10))
   omega
  by_cases h11:n.op=11
  ·have:=itoa_le (ho.num (.inr (.inl h11)))
   by_cases hneg:n.n < 0
   ·rw [text_sub h11 hneg];simp only [List.length_cons,List.length_append,List.length_nil]
    omega
   ·rw [text_add h11 hneg];simp only [List.length_cons,List.length_append,List.length_nil]
    omega
  by_cases h12:n.op=12
  ·rw [text_diff h12];have:=num_len (ho.num (.inr (.inr h12)));simp only [List.length_cons,List.length_append,List.length_nil]
   omega
  by_cases h13:n.op=13
  ·obtain ⟨j,f,_,hf,hnm,_⟩:=fun_name_at h hn h13;have hl:=name_len (fun_name' (table_parts.1 h).1 hf).1
   by_cases hz:n.len=0
   ·rw [text_name h13 hz,hnm]
    omega
   ·rw [text_app h13 hz,hnm];simp only [List.length_cons,List.length_append,List.length_nil]
    omega
  ·have:=word_len n.op;rw [text_op h0 h10 h11 h12 h13];simp only [List.length_cons,List.length_append,List.length_nil]
   omega
end
end El
namespace El
open Go.RowKit Go.Maps Dt Sg
theorem fold_some:∀ {l:List Sexp} {acc ns:List ByteArray},l.foldl stepB (some acc)=some ns->ns=acc ++ l.map (fun u=>(nthX u 0).text)/\∀ u ∈ l,u.l.length=2
 | [],acc,ns,h=>by
  simp only [List.foldl_nil,Option.some.injEq] at h;subst h;exact⟨by simp,fun u hu=>by cases hu⟩
 | u :: l,acc,ns,h=>by
  rw [List.foldl_cons] at h
  cases hb:bindN u with
  | none =>
   rw [show stepB (some acc) u=none by unfold stepB;rw [Option.bind_some,hb];rfl,fold_none] at h
   cases h
  | some s =>
   have hs:=bindN_eq u;rw [hb] at hs
   by_cases hc:u.kind=3/\u.l.length=2/\(nthX u 0).kind=0/\Lx.resB (Lx.bs (nthX u 0).text)=false
   ·rw [if_pos hc] at hs
    cases hs
    by_cases hh:hasB acc (nthX u 0).text=true
    ·rw [show stepB (some acc) u=none by unfold stepB;rw [Option.bind_some,hb,Option.bind_some,if_pos hh],fold_none] at h
     cases h
    ·rw [show stepB (some acc) u=some (acc ++ [(nthX u 0).text]) by unfold stepB;rw [Option.bind_some,hb,Option.bind_some,if_neg hh]] at h;obtain ⟨h1,h2⟩:=fold_some h;refine⟨by rw [h1];simp,fun v hv=>?_⟩;rcases List.mem_cons.1 hv with rfl | hv
     ·exact hc.2.1
     ·exact h2 v hv
   ·rw [if_neg hc] at hs
    cases hs
theorem bound_some {x:Sexp} {ns:List ByteArray} (h:boundN x=some ns):x.l.length=3/\ns=(nthX x 1).l.map (fun u=>(nthX u 0).text)/\∀ u ∈ (nthX x 1).l,u.l.length=2:=by
 rw [boundN_eq] at h
 by_cases hc:x.l.length=3/\(nthX x 1).kind=3/\(nthX x 1).l.length≠0
 ·rw [if_pos hc] at h;obtain ⟨h1,h2⟩:=fold_some h;exact⟨hc.1,by simpa using h1,h2⟩
 ·rw [if_neg hc] at h
  cases h
theorem NRow.other {S:Nat->Prop} {base:Nat} {w w':World} {v:Value} {ns:List ByteArray} (h:NRow base w v ns) (hk:Keeps S w w') (hS:∀ g,v.ownBlock=some g->¬ S g):NRow base w' v ns:=by
 refine⟨h.1,?_⟩;rcases h.2 with h1 | ⟨g,cap,cur,h1,hg,hat,h2⟩
 ·exact .inl h1
 ·exact .inr ⟨g,cap,cur,h1,hg,(hk.block g (lt_of_block hat) (hS g (by rw [h1];rfl))).trans hat,h2⟩
theorem Mid.mapped {F:Fix} {known:Int} {w0 W W9:World} {t0:List Node} {At0:Option Addr} {rb m:Nat} {st':St} {A':Option Addr} {c':Nat} (hF:FixOk F) (h:Mid F known w0 t0 At0 rb W st' A' c') (hg:W.grownBy W9 (some m)) (hf:Far m st'.t A') (h1:w0.heap.size<=m) (h2:m≠rb):Mid F known w0 t0 At0 rb W9 st' A' c':=by
 have hlt:=h.lt;have hk:Keeps (fun k=>k=m) W W9:=(Keeps.refl _ W).grown hg (fun j hj=>.inl (Option.some.inj hj).symm);exact⟨h.maker.same hk (by omega) (fun hn b o e hb=>hf hn b o e hb) (fun k e=>by have:=hF.lt;omega),h.keeps.grown hg (fun j hj=>.inr (by cases hj;exact h1)),h.tn,h.far,(hk.block rb h.size (Ne.symm h2)).trans h.cell,h.lt,h.le⟩
theorem KeyMap.congr {κ:Type} {kt:TypeId} {key:κ->Value} {w:World} {b n:Nat} {G H:κ->Option Value} (h:KeyMap kt key w b n G) (e:∀ a,G a=H a):KeyMap kt key w b n H:=by
 have:G=H:=funext e;rw [← this];exact h
theorem findE_cons (n:ByteArray) (v:V) (l:Env) (s:ByteArray):(findE ((n,v) :: l) s).map valV=if s=n then some (valV v) else(findE l s).map valV:=by
 unfold findE
 by_cases h:n=s
 ·subst h;simp
 ·rw [List.find?_cons_of_neg (by simpa using h),if_neg (Ne.symm h)]
theorem zip_snoc {ns:List ByteArray} {vs:List V} {n:ByteArray} {v:V} (hn:ns[vs.length]?=some n):(ns.zip (vs ++ [v])).reverse=(n,v) :: (ns.zip vs).reverse:=by
 have h:ns.zip (vs ++ [v])=ns.zip vs ++ [(n,v)]:=by
  induction vs generalizing ns with
  | nil =>
   cases ns with
   | nil=>simp at hn
   | cons a r=>simp at hn;subst hn;simp
  | cons x vs ih =>
   cases ns with
   | nil=>simp at hn
   | cons a r =>
    have:=ih (ns:=r) (by simpa using hn);simp [this]
 rw [h];simp
theorem let_any {F:Fix} (hF:FixOk F) {known:Nat} {x:Sexp} (hT:∀ y:Sexp,y.full < x.full->TermC F known y) {w:World} {st:St} {At:Option Addr} {ct:Nat} (hm:Mk F w known st At ct) {A:Option Addr} {c:Nat} (hx:XAt F.W0 A c x) {p:Option Addr} {env:Env} (he:EnvS F w p env) :
  Calls Tryz.prog 92 #[.pointer (some ⟨F.mb,0,none⟩),.agg #[.int .i8 x.kind,.string x.text,.slice A x.l.length c],.pointer p] w (MkPost F known w st.t At (letM (termP F.c) known x env st).1 (letM (termP F.c) known x env st).2):=by
 have HT:=kp hT;have HX:=kp hx;have HE:=kp he;have hlt:=hm.lt;have B1:=kp ((brq w).alloc nlq (.cells #[.int .i8 x.kind,.string x.text,.slice A x.l.length c] 40));have Z1:=kp (show(w.alloc (.cells #[.int .i8 x.kind,.string x.text,.slice A x.l.length c] 40)).heap.size=w.heap.size+1 by simp);have D1:=kp (Mid.newOn hm B1.out);have X1:=kp (Bk.keep (Bk.new w (.cells #[.int .i8 x.kind,.string x.text,.slice A x.l.length c] 40)) (.cells #[.int .i64 0,.int .i64 0] 82));rw [Z1.out] at D1
 have HS:=kp (show letM (termP F.c) known x env st=match boundN x with
  | none=>(v0,failS 30 st)
  | some names=>termP F.c known (nthX x 2) ((names.zip (allM (fun y=>termP F.c known y env) ((nthX x 1).l.map secondX) st).1).reverse ++ env) (allM (fun y=>termP F.c known y env) ((nthX x 1).l.map secondX) st).2 from rfl)
 have HBd:=kp (fun ns h=>bound_some (x:=x) (ns:=ns) h);clear hm hT hx he;generalize letM (termP F.c) known x env st=res at *
 go_enter Tryz.func92,Tryz.ntmps92
 go_upto_region 1 with fail
 generalize (w.alloc (.cells #[.int .i8 x.kind,.string x.text,.slice A x.l.length c] 40)).alloc (.cells #[.int .i64 0,.int .i64 0] 82)=w1 at *;obtain ⟨q0,q1,q2,qf⟩:=Bk.c3 X1.out;have HBo:=kp (bound_any (HX.out.on D1.out.maker.below))
 cases hbo:boundN x with
 | none =>
  rw [hbo] at HS HBo;go_wp2_with fail
  refine HBo.out.mono ?_;rintro e w2 ⟨⟨v,rfl,_⟩,hb2⟩;have D2:=kp (D1.out.below hb2);clear hb2 q0 q1 q2 qf;have HFl:=kp (fail_any hF D2.out.maker 30 (by decide));go_wp2_with fail
  refine HFl.out.mono ?_;rintro e w7 ⟨rfl,hv,hk7,A7,c7,hm7,ht7⟩;have D7:=kp (D2.out.call hk7 hm7 ht7);unfold valV v0;clear hk7 hm7 ht7;obtain ⟨r0,r1,rf⟩:=Bk.c2 D7.out.cell;go_wp2_with fail
  rw [HS.out];refine D7.out.ret (v:=v0) hF Tryz.results92 ?_ ?_ v0_VI <;> rfl
 | some ns =>
  rw [hbo] at HS HBo;have H3:=kp (HBd.out ns hbo);replace HS:=kp (show res=termP F.c known (nthX x 2) ((ns.zip (allM (fun y=>termP F.c known y env) ((nthX x 1).l.map secondX) st).1).reverse ++ env) (allM (fun y=>termP F.c known y env) ((nthX x 1).l.map secondX) st).2 from HS.out);clear hbo HBd;go_wp2_with fail
  refine HBo.out.mono ?_;rintro e w2 ⟨⟨v,rfl,hnr⟩,hb2⟩;have D2:=kp (D1.out.below hb2);have X2:=kp (Bk.on X1.out hb2);have N2:=kp (hnr ns rfl);obtain ⟨An,cn,rfl⟩:=N2.out.shape;clear hb2 q0 q1 q2 qf hnr HBo;obtain ⟨h3,hns,hun⟩:=H3.out;clear H3;obtain ⟨b0,o0,A1,c1,hA,hx1,hc1⟩:=nth_xs HX.out (i:=1) (by omega);obtain ⟨b0',o0',A2,c2,hA2,hx2,hc2⟩:=nth_xs HX.out (i:=2) (by omega);subst hA;obtain ⟨rfl,rfl⟩:=aiq hA2;have HM1:=kp (nth_mem (x:=x) (i:=1) (by omega));have HM2:=kp (nth_mem (x:=x) (i:=2) (by omega));have g3:(2:Int) < (x.l.length:Int):=by omega
  have g4:(1:Int) < (x.l.length:Int):=by omega
  have HX2:=kp hx2;have HC1:=kp hc1;have HC2:=kp hc2;generalize nthX x 1=y1 at *;generalize nthX x 2=y2 at *;have HLl:=kp hx1.opens.1;have HNl:=kp (show ns.length=y1.l.length by rw [hns];simp);have hyl:=hx1.opens.2.2.2.2.1;have HNs:=kp (fun k u (hu:y1.l[k]?=some u)=>show ns[k]?=some (nthX u 0).text by rw [hns,List.getElem?_map,hu];rfl);have HUn:=kp hun;clear hns hun h3 hx1 hx2 hc1 hc2;generalize hrest:y1.l.map secondX=rest at *;have HRest:=kp hrest;have HRl:=kp (show rest.length=ns.length by rw [← hrest,HNl.out];simp);clear hrest;generalize hr:(fun y=>termP F.c known y env)=r at *;have HRf:=kp (fun y s=>show termP F.c known y env s=r y s by rw [← hr]);clear hr;have hmm:=@run_makeMap Tryz.prog;have M3:=kp (KeyMap.made (kt:=9) (key:=strKV) w2);have D3:=kp (D2.out.alloc (.map #[] 0));have X3:=kp (Bk.keep X2.out (.map #[] 0));have N3:=kp (N2.out.below ((brq w2).alloc nlq (.map #[] 0)));have FM3:=kp (D2.out.fresh (Nat.le_refl w2.heap.size));have HNo:=kp (show ∀ g,(Value.slice An ns.length cn).ownBlock=some g->g≠w2.heap.size from fun g hg=>by have:=(N2.out.lt g hg).2;omega);have hmr:w2.heap.size≠w.heap.size+1:=by have:=D2.out.size;omega
  have hmx:w2.heap.size≠w.heap.size:=by have:=D2.out.size;omega
  have hmw:=D2.out.keeps.size;go_upto_region 5 with fail
  generalize w2.alloc (.map #[] 0)=w3 at *;generalize w2.heap.size=mpb at *;clear hmm D2 X2 N2;have HS0:=kp (show res=termP F.c known y2 ((ns.zip ([] ++ (allM r (rest.drop 0) st).1)).reverse ++ env) (allM r (rest.drop 0) st).2 from HS.out);clear HS;go_wp2_with fail
  go_loopw [24] (fun i' wr=>∃ k:Nat,k<=ns.length/\i'=.int .i64 k/\∃ vs:List V,vs.length=k/\∃ (st':St) (A':Option Addr) (c':Nat),res=termP F.c known y2 ((ns.zip (vs ++ (allM r (rest.drop k) st').1)).reverse ++ env) (allM r (rest.drop k) st').2/\Mid F known w st.t At (w.heap.size+1) wr st' A' c'/\wr.heap[w.heap.size]?=some (.cells #[.int .i8 x.kind,.string x.text,.slice (some ⟨b0,o0,none⟩) x.l.length c] 40 (0,0))/\NRow w1.heap.size wr (.slice An ns.length cn) ns/\KeyMap 9 strKV wr mpb k (fun s=>(findE (ns.zip vs).reverse s).map valV)/\Far mpb st'.t A'/\∀ v ∈ vs,VI v) (fun i' _=>ns.length - (intOf i').toNat)
  case atStart=>exact⟨0,Nat.zero_le _,rfl,[],rfl,st,At,ct,HS0.out,D3.out,X3.out,N3.out,KeyMap.congr M3.out (fun s=>by simp [findE]),FM3.out,fun v hv=>by cases hv⟩
  case round =>
   obtain ⟨k,hk,rfl,vs,hvl,st',A',c',hres,hmid,hxr,hnr,hkm,hfm,hvi⟩:=hrel;have HRes:=kp hres;have DR:=kp hmid;have XR:=kp hxr;have NR:=kp hnr;have KM:=kp hkm;have FM:=kp hfm;have VI':=kp hvi;clear hres hmid hxr hnr hkm hfm hvi
   by_cases hkl:k < ns.length
   ·have hlt2:(k:Int) < (ns.length:Int):=by omega
    have hlt3:(k:Int) < (y1.l.length:Int):=by have:=HNl.out;omega
    obtain ⟨u,hu⟩:∃ u,y1.l[k]?=some u:=⟨_,gqe (by have:=HNl.out;omega)⟩;have hn:=HNs.out k u hu;have hu2:=HUn.out u (mgq hu);have hu3:(1:Int) < (u.l.length:Int):=by omega
    have HDr:=kp (show rest.drop k=nthX u 1 :: rest.drop (k+1) by
     have hlr:k < rest.length:=by have:=HRl.out;omega
     rw [List.drop_eq_getElem_cons hlr];have h1:rest[k]?=some (nthX u 1):=by rw [← HRest.out,List.getElem?_map,hu];rfl
     rw [gqe hlr] at h1;simp at h1;rw [h1])
    rw [HDr.out] at HRes;replace HRes:=kp (show res=termP F.c known y2 ((ns.zip (vs ++ ((r (nthX u 1) st').1 :: (allM r (rest.drop (k+1)) (r (nthX u 1) st').2).1))).reverse ++ env) (allM r (rest.drop (k+1)) (r (nthX u 1) st').2).2 from HRes.out);obtain ⟨bn,on,hAn,p0⟩:=NR.out.at hn;obtain ⟨bu,ou,Au,cu,hAu,hxu,hcu⟩:=xs_get HLl.out hu;obtain ⟨bz,oz,Az,cz,hAz,hxz,hcz⟩:=nth_xs hxu (i:=1) (by omega)
    have hns:((nthX u 0).text.size:Int)<=140737488351232:=by
     obtain ⟨_,_,_,_,_,hxn,_⟩:=nth_xs hxu (i:=0) (by omega);exact hxn.opens.2.2.2.1
    have hfz:(nthX u 1).full < x.full:=by
     have h1:=full_mem (nth_mem (x:=u) (i:=1) (by omega));have h2:=full_mem (mgq hu);have h3:=full_mem HM1.out
     omega
    have HC:=kp (HT.out _ hfz DR.out.maker hxz (HE.out.on DR.out.keeps));rw [HRf.out] at HC;have HN:=kp hn;obtain ⟨e0,e1,e2⟩:=HC1.out wr DR.out.maker.below;obtain ⟨f0,f1,f2⟩:=hcu wr DR.out.maker.below;obtain ⟨z0,z1,z2⟩:=hcz wr DR.out.maker.below;obtain ⟨q0,q1,q2,qf⟩:=Bk.c3 XR.out;generalize (nthX u 0).text=n at *;generalize nthX u 1=z at *;generalize r z st'=pr at *;obtain ⟨pv,ps⟩:=pr;subst hAu hAz;rw [hAn] at NR HNo;clear hu hu2 hn hxu hxz hcu hcz hfz HDr;rw [hAn];go_wp2_with fail
    refine HC.out.mono ?_;rintro e w7 ⟨rfl,hv,hk7,A7,c7,hm7,ht7⟩;have D7:=kp (DR.out.call hk7 hm7 ht7);have X7:=kp (DR.out.blk hk7 XR.out nlq);have N7:=kp (NR.out.keep hk7 (by have:=D1.out.size;omega));have KM7:=kp (KM.out.keeps hk7 (DR.out.ne hmw));have FM7:=kp (Far.of_tn FM.out ht7 KM.out.lt);have VP:=kp hv;clear hv hk7 hm7 ht7 p0 e0 e1 e2 f0 f1 f2 z0 z1 z2 q0 q1 q2 qf;obtain ⟨v8,u8,m8,g8⟩:=KeyMap.store (a:=n) (t:=115) (e:=82) KM7.out string_key str_inj Tryz.underlying115 (by have:=NR.out;unfold maxLen;omega) (keyOf_str hns) (valV pv);unfold valV at u8;replace u8:(Instr.mapUpdate 115 (.map (some mpb)) (.string n) (.agg #[.int .i64 pv.1,.int .i64 pv.2])).run Tryz.prog w7=.ok () v8:=u8;have K8:=kp (show Keeps (fun k=>k=mpb) w7 v8 from(Keeps.refl _ w7).grown g8 (fun j hj=>.inl (Option.some.inj hj).symm));have D8:=kp (D7.out.mapped hF g8 FM7.out hmw hmr);have X8:=kp ((K8.out.block w.heap.size (lt_of_block X7.out) (Ne.symm hmx)).trans X7.out);have N8:=kp (N7.out.other K8.out (fun g hg e=>HNo.out g hg e));subst hvl;have M8:=kp (show KeyMap 9 strKV v8 mpb (vs.length+1) (fun s=>(findE (ns.zip (vs ++ [pv])).reverse s).map valV) from KeyMap.congr m8 (fun s=>by rw [zip_snoc HN.out,findE_cons]));clear m8 g8;unfold valV;go_wp2_with fail
    go_roundw
    case rel=>exact⟨vs.length+1,by omega,by go_num,vs ++ [pv],by simp,ps,A7,c7,by rw [HRes.out];simp,D8.out,X8.out,N8.out,M8.out,FM7.out,fun v hv=>by
     rcases List.mem_append.1 hv with hv | hv
     ·exact VI'.out v hv
     ·obtain rfl:v=pv:=by simpa using hv
      exact VP.out⟩
    case measure=>simp [intOf];omega
   ·obtain rfl:k=ns.length:=by omega
    replace HRes:=kp (show res=termP F.c known y2 ((ns.zip vs).reverse ++ env) st' by rw [HRes.out,List.drop_of_length_le (by have:=HRl.out;omega)];simp [allM]);have D9:=kp (DR.out.alloc (.cells #[.pointer p,.map (some mpb)] 117));have S9:=kp (Bk.new wr (.cells #[.pointer p,.map (some mpb)] 117));have KM9:=kp (KM.out.below ((brq wr).alloc nlq (.cells #[.pointer p,.map (some mpb)] 117)));have HEn:=kp ((HE.out.on D9.out.keeps).cons S9.out KM9.out (fun q hq=>VI'.out _ (List.of_mem_zip (List.mem_reverse.1 hq)).2) (by have:=DR.out.keeps.size;omega) (by omega));have HC:=kp (HT.out y2 (full_mem HM2.out) D9.out.maker HX2.out HEn.out);rw [← HRes.out] at HC;obtain ⟨e0,e1,e2⟩:=HC2.out wr DR.out.maker.below;obtain ⟨q0,q1,q2,qf⟩:=Bk.c3 XR.out;go_wp2_with fail
    refine HC.out.mono ?_;rintro e w7 ⟨rfl,hv,hk7,A7,c7,hm7,ht7⟩;have D7:=kp (D9.out.call hk7 hm7 ht7);unfold valV;clear hk7 hm7 ht7 e0 e1 e2 q0 q1 q2 qf;obtain ⟨r0,r1,rf⟩:=Bk.c2 D7.out.cell;go_wp2_with fail
    refine D7.out.ret (v:=res.1) hF Tryz.results92 ?_ ?_ hv <;> rfl
theorem call1_any {w:World} {xb mb:Nat} (known:Int) (hx:w.heap[xb]?=some (.cells #[.pointer (some ⟨mb,0,none⟩)] 78 (0,0))) {v6:Value} (h6:w.cell? ⟨mb,6,none⟩=some v6) (hf:w.frozen? ⟨mb,6,none⟩=false) :
  CallsD Tryz.prog 100 #[.int .i64 known,.pointer (some ⟨xb,0,none⟩)] .returning w fun e u' w'=>u'=.returning/\(e=.returned (.tuple #[])/\w'=w.setCell ⟨mb,6,none⟩ (.int .i64 known)):=by
 obtain ⟨q0,qf⟩:=Bk.c1 hx;clear hx
 go_enter_d Tryz.func100,Tryz.ntmps100
 go_wp2_with fail
 first | go_end0 | refine bodyPost_ret (results_none rfl _ _ _) rfl ?_
 all_goals exact⟨rfl,rfl⟩
structure MacAt (W0:World) (b o:Nat) (m:Macro) (pA:Option Addr) (pc:Nat) (bA:Option Addr) (bc:Nat):Prop where
 lt:b < W0.heap.size
 c0:W0.cell? ⟨b,o,none⟩=some (.string m.name)
 c1:W0.cell? ⟨b,o+1,none⟩=some (.slice pA m.params.length pc)
 c2:W0.cell? ⟨b,o+2,none⟩=some (.int .i64 m.res)
 c3:W0.cell? ⟨b,o+3,none⟩=some (.int .i8 m.body.kind)
 c4:W0.cell? ⟨b,o+4,none⟩=some (.string m.body.text)
 c5:W0.cell? ⟨b,o+5,none⟩=some (.slice bA m.body.l.length bc)
 body:XAt W0 bA bc m.body
 params:Lies 2 ParamR W0 pA m.params
 res:I64 m.res
theorem mac_get {W0:World} {A:Option Addr} {l:List Macro} (h:Lies 6 MacroR W0 A l) {k:Nat} {m:Macro} (hm:l[k]?=some m):∃ b o pA pc bA bc,A=some ⟨b,o,none⟩/\MacAt W0 b (o+k * 6) m pA pc bA bc:=by
 obtain ⟨b,o,vs,hA,hb,_,hc,hr⟩:=h.at' hm;obtain ⟨pA,pc,bv,rfl,hbv,hp,_,_,_,hres⟩:=hr;obtain ⟨bA,bc,rfl,_⟩:=hbv.open';exact⟨b,o,pA,pc,bA,bc,hA,hb,hc 0 _ rfl,hc 1 _ rfl,hc 2 _ rfl,hc 3 _ rfl,hc 4 _ rfl,hc 5 _ rfl,hbv,hp,hres⟩
theorem MacAt.on {W0 W:World} {b o:Nat} {m:Macro} {pA:Option Addr} {pc:Nat} {bA:Option Addr} {bc:Nat} (h:MacAt W0 b o m pA pc bA bc) (hb:Below W0.heap.size W0 W) :
  W.cell? ⟨b,o,none⟩=some (.string m.name)/\W.cell? ⟨b,o+1,none⟩=some (.slice pA m.params.length pc)/\W.cell? ⟨b,o+2,none⟩=some (.int .i64 m.res)/\W.cell? ⟨b,o+3,none⟩=some (.int .i8 m.body.kind)/\W.cell? ⟨b,o+4,none⟩=some (.string m.body.text)/\W.cell? ⟨b,o+5,none⟩=some (.slice bA m.body.l.length bc):=by
 have k:=fun j=>(bcell hb).1 b j h.lt;exact⟨(k _).trans h.c0,(k _).trans h.c1,(k _).trans h.c2,(k _).trans h.c3,(k _).trans h.c4,(k _).trans h.c5⟩
theorem par_get {W0:World} {A:Option Addr} {l:List Param} (h:Lies 2 ParamR W0 A l) {k:Nat} {q:Param} (hq:l[k]?=some q):∃ b o,A=some ⟨b,o,none⟩/\(q.name.size:Int)<=140737488351232/\∀ W,Below W0.heap.size W0 W->W.cell? ⟨b,o+k * 2,none⟩=some (.string q.name)/\W.cell? ⟨b,o+k * 2+1,none⟩=some (.int .i64 q.sort):=by
 obtain ⟨b,o,vs,hA,hb,_,hc,rfl,hn,_⟩:=h.at' hq;exact⟨b,o,hA,hn,fun W hW=>⟨((bcell hW).1 b _ hb).trans (hc 0 _ rfl),((bcell hW).1 b _ hb).trans (hc 1 _ rfl)⟩⟩
theorem sortsM_at {vs:List V} {q:List Int} {v:V} {s:Int} {k:Nat} {st:St} (hv:vs[k]?=some v) (hs:q[k]?=some s):sortsM (vs.drop k) (q.drop k) st=sortsM (vs.drop (k+1)) (q.drop (k+1)) (sortStep v s st):=by
 have h1:=(gqs hv).1;have h2:=(gqs hs).1;rw [gqe h1] at hv;rw [gqe h2] at hs;simp at hv hs;rw [List.drop_eq_getElem_cons h1,List.drop_eq_getElem_cons h2,hv,hs]
 rfl
theorem zip_take {ns:List ByteArray} {vs:List V} {k:Nat} {n:ByteArray} {v:V} (hn:ns[k]?=some n) (hv:vs[k]?=some v):((ns.zip vs).take (k+1)).reverse=(n,v) :: ((ns.zip vs).take k).reverse:=by
 have h:(ns.zip vs)[k]?=some (n,v):=by rw [List.getElem?_zip_eq_some];exact⟨hn,hv⟩
 rw [List.take_add_one,h];simp
theorem many_any {F:Fix} (hF:FixOk F) {w:World} {known:Int} {st:St} {At:Option Addr} {ct:Nat} (hm:Mk F w known st At ct) (h0:st.e=0) :
  Calls Tryz.prog 58 #[.pointer (some ⟨F.mb,0,none⟩),.int .i64 40] (w.setCell ⟨F.mb,7,none⟩ (.int .i64 (st.calls+1))) (MkPost F known (w.setCell ⟨F.mb,7,none⟩ (.int .i64 (st.calls+1))) st.t At v0 { st with calls:=st.calls+1,e:=40 }):=by
 have hlt:=hm.lt;have hc:=hm.calls;have hk1:Keeps (onMb F) w (w.setCell ⟨F.mb,7,none⟩ (.int .i64 (st.calls+1))):=(Keeps.refl _ w).setCell (.inl (show onMb F F.mb from rfl)) _;have MB:=kp (show(w.setCell ⟨F.mb,7,none⟩ (.int .i64 (st.calls+1))).heap[F.mb]?=some (.cells #[.slice F.A1 F.c.g.sorts.length F.c1,.slice F.A2 F.c.g.funs.length F.c2,.slice F.A3 F.c.g.macros.length F.c3,.slice At st.t.length ct,.int .i64 F.c.most,.bool F.c.build,.int .i64 known,.int .i64 (st.calls+1),.int .i64 st.e] 80 (0,0)) from Bk.set_at hm.blk 7 _)
 -- behind both stores
 have HM:=kp (fun W (hW:Below (w.setCell ⟨F.mb,7,none⟩ (.int .i64 (st.calls+1))).heap.size (w.setCell ⟨F.mb,7,none⟩ (.int .i64 (st.calls+1))) W)=>show Mk F (W.setCell ⟨F.mb,8,none⟩ (.int .i64 40)) known { st with calls:=st.calls+1,e:=40 } At ct/\Keeps (onMb F) (w.setCell ⟨F.mb,7,none⟩ (.int .i64 (st.calls+1))) (W.setCell ⟨F.mb,8,none⟩ (.int .i64 40)) by
  have hk2:Keeps (onMb F) (w.setCell ⟨F.mb,7,none⟩ (.int .i64 (st.calls+1))) (W.setCell ⟨F.mb,8,none⟩ (.int .i64 40)):=(Keeps.of_below hW _).setCell (.inl (show onMb F F.mb from rfl)) _;have hk3:=hk1.trans_same hk2;refine⟨⟨?_,hm.le,hm.lm,hm.len,?_,hm.far,⟨by show 0<=st.calls+1;omega,by show st.calls+1<=301;have:=hc.2.2 h0;omega,fun h=>by cases h⟩,below_mb hF hm.below hk3⟩,hk2⟩
  ·exact Bk.set_at (Bk.on MB.out hW) 8 (.int .i64 40)
  ·exact lies_block hm.table hk3.size (fun hn b o e=>hk3.block b (lies_lt hm.table hn b o e) (hm.far hn b o e)))
 have HFr:=kp (hm.new_far (Nat.le_refl w.heap.size));have hz:(w.setCell ⟨F.mb,7,none⟩ (.int .i64 (st.calls+1))).heap.size=w.heap.size:=by simp [World.setCell]
 clear hm hk1;generalize w.setCell ⟨F.mb,7,none⟩ (.int .i64 (st.calls+1))=w0 at *;have B1:=kp ((brq w0).alloc nlq (.cells #[.int .i64 0,.int .i64 0] 82));have RB:=kp (Bk.new w0 (.cells #[.int .i64 0,.int .i64 0] 82));have M1:=kp (Bk.on MB.out B1.out);have hlt':F.mb < w0.heap.size:=by omega
 rw [← hz] at HFr;clear hz hlt
 go_enter Tryz.func58,Tryz.ntmps58
 go_upto_region 1 with fail
 generalize w0.alloc (.cells #[.int .i64 0,.int .i64 0] 82)=w1 at *;obtain ⟨m0,m1,m2,m3,m4,m5,m6,m7,m8,mf⟩:=Bk.c9 M1.out;obtain ⟨r0,r1,rf⟩:=Bk.c2 RB.out;have he1:(st.e == 0)=true:=by simp [h0]
 have HQ:=kp (HM.out _ B1.out);clear h0;go_wp2_with fail
 refine mk_end (v:=v0) hF Tryz.results58 HQ.out.1 hlt' HQ.out.2 (TN.refl _ _ _) nlq HFr.out (Bk.apart RB.out (by show w0.heap.size≠F.mb;omega) _) ?_ ?_ v0_VI <;> rfl
end El
end Go.Proofs.YtpmdcckapddchaaGreatDoor
