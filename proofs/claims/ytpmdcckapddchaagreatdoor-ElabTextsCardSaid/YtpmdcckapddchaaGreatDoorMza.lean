import Derived.Test.YtpmdcckapddchaaGreatDoorShort
import Derived.Test.YtpmdcckapddchaaGreatDoorMw
import Derived.Test.YtpmdcckapddchaaGreatDoorMx
import Derived.Test.YtpmdcckapddchaaGreatDoorMl
/- merged by wip/merge.py from: RTyApp -/
set_option maxRecDepth 100000
set_option maxHeartbeats 51200000
namespace Go.Proofs.YtpmdcckapddchaaGreatDoor
namespace El
open Go.RowKit Dt Sg
theorem rapp_any {w:World} {A1 A2 A3:Option Addr} {c1 c2 c3:Nat} {g:Sig} (h:SigAt w A1 c1 A2 c2 A3 c3 g) (hg:checkE g=0) {A:Option Addr} {l:List Int} (c:Nat) (f:Int) (hl:Cells w A (l.map (Value.int .i64))) (hn:l.length<=3) :
  Calls Tryz.prog 84 #[.agg #[.slice A1 g.sorts.length c1,.slice A2 g.funs.length c2,.slice A3 g.macros.length c3],.int .i64 f,.slice A l.length c] w (AppPost g f l w):=by
 have HP:=kp (fun a b w' h hb=>appPost (g:=g) (op:=f) (l:=l) (w:=w) (w':=w') (a:=a) (b:=b) h hb);have HL:=kp hl;have HS:=kp h
 have HA:=kp (show appProg g f l=if f < 0\/(g.funs.length:Int)<=f then((0,2):Int × Int) else match g.funs[f.toNat]? with
  | none=>(0,2)
  | some x=>if(l.length:Int)≠x.len then(0,2) else if argsB x l=true then(x.res,0) else(0,33) from rfl)
 have SB:=kp (Bk.new w (.cells #[.slice A1 g.sorts.length c1,.slice A2 g.funs.length c2,.slice A3 g.macros.length c3] 26));have B1:=kp ((brq w).alloc nlq (.cells #[.slice A1 g.sorts.length c1,.slice A2 g.funs.length c2,.slice A3 g.macros.length c3] 26));have HC:=kp (rcheck_any (h.on B1.out));rw [hg] at HC;have HZ:=kp B1.out.size;have HL1:=kp (HL.out.on B1.out);have HS1:=kp (HS.out.on B1.out);clear h hl hg HL HS;generalize AppPost g f l w=PP at *;generalize appProg g f l=res at *
 go_enter Tryz.func84,Tryz.ntmps84
 go_upto_region 1 with fail
 generalize w.alloc (.cells #[.slice A1 g.sorts.length c1,.slice A2 g.funs.length c2,.slice A3 g.macros.length c3] 26)=w1 at *;obtain ⟨r0,r1,r2,rf⟩:=Bk.c3 SB.out;go_wp2_with fail
 refine HC.out.mono ?_;rintro e w2 ⟨rfl,hb⟩;have B3:=kp (B1.out.trans (hb.mono HZ.out));have SB2:=kp (Bk.on SB.out hb);have HL2:=kp (HL1.out.on hb);have HS2:=kp (HS1.out.on hb);clear hb r0 r1 r2 rf HC SB B1 HL1 HS1;obtain ⟨r0,r1,r2,rf⟩:=Bk.c3 SB2.out
 by_cases h0:f < 0
 ·have HE:=kp (show res=(0,2) by rw [HA.out,if_pos (.inl h0)]);go_wp2_with fail
  exact HP.out _ _ _ HE.out B3.out
 by_cases h1:(g.funs.length:Int)<=f
 ·have HE:=kp (show res=(0,2) by rw [HA.out,if_pos (.inr h1)]);replace h0:=dfq h0;go_wp2_with fail
  exact HP.out _ _ _ HE.out B3.out
 replace HA:=kp (HA.out.trans (if_neg (by omega)));obtain ⟨k,rfl⟩:∃ k:Nat,f=(k:Int):=⟨f.toNat,by omega⟩;have hk:k < g.funs.length:=by omega
 obtain ⟨x,hx⟩:∃ x,g.funs[k]?=some x:=⟨_,gqe hk⟩;replace HA:=kp (show res=if(l.length:Int)≠x.len then(0,2) else if argsB x l=true then(x.res,0) else(0,33) by rw [HA.out,Int.toNat_natCast,hx]);obtain ⟨fb,fo,hA2,hfa,hfi⟩:=fun_get HS2.out.funs hx;subst hA2;have HF:=kp hfa;clear hx hfa hfi;replace h0:=dfq h0;replace h1:=dfq h1;have hk2:(k:Int) < (g.funs.length:Int):=by omega
 obtain ⟨_,_,q1,_,_,_,q5⟩:=HF.out
 by_cases hn2:(l.length:Int)=x.len
 ·have hn3:((l.length:Int) != x.len)=false:=by simp [hn2]
  replace HA:=kp (HA.out.trans (if_neg (by simp [hn2])));clear hn2;go_wp2_with fail
  clear r0 r1 r2 rf q1 q5 h0 h1
  go_loopw [8] (fun v wr=>∃ j:Nat,j<=l.length/\v=.int .i64 j/\(∀ i,i < j->l.getD i 0=Fun4.arg x i)/\Below w2.heap.size w2 wr) (fun v _=>l.length - (intOf v).toNat)
  case atStart=>exact⟨0,Nat.zero_le _,rfl,fun j hj=>by omega,Below.refl _ _⟩
  case round =>
   obtain ⟨j,hj,rfl,hto,hb⟩:=hrel;have HTo:=kp hto;have HB:=kp hb;have HBw:=kp (B3.out.trans (hb.mono B3.out.size));have SBr:=kp (Bk.on SB2.out hb);have HLr:=kp (HL2.out.on hb);have HFr:=kp (HF.out.on hb);clear hto hb
   by_cases hlt:j < l.length
   ·have hlt2:(j:Int) < (l.length:Int):=by omega
    have hj3:j < 3:=by omega
    have hj4:(j:Int) < 3:=by omega
    obtain ⟨b,o,rfl,p0⟩:=cells_get HLr.out hlt
    have HTk:=kp (show l.getD j 0=Fun4.arg x j->∀ i,i < j+1->l.getD i 0=Fun4.arg x i from fun he i hi=>by
     by_cases h:i < j
     ·exact HTo.out i h
     ·obtain rfl:i=j:=by omega
      exact he)
    have HNk:=kp (fun hne=>argsB_stop (f:=x) (l:=l) (k:=j) hlt hne);have P0:=kp p0;have P1:=kp (FunAt.arg HFr.out hj3);have HJ:=kp hlt;clear p0 HTo;generalize l.getD j 0=y at *;generalize Fun4.arg x j=z at *
    by_cases hy:y=z
    ·have hy':(y != z)=false:=by simp [hy]
     have HQ:=kp (HTk.out hy);clear hy;go_wp2_with fail
     refine wp_region_held_drew (S:=fun W=>W.heap[w.heap.size]?=some (.cells #[.slice A1 g.sorts.length c1,.slice (some ⟨fb,fo,none⟩) g.funs.length c2,.slice A3 g.macros.length c3] 26 (0,0))/\W.cell? ⟨b,o+j,none⟩=some (.int .i64 y)/\W.cell? ⟨fb,fo+k * 6+2+j,none⟩=some (.int .i64 z)) (by kernel_rfl) (⟨SBr.out,P0.out,P1.out⟩) (fun hHeld=>?_);refine plz [0,1,2,3,4,5,6,7,8,9,10,11,12] ?_;iterate 13 (refine tnz (v:=?_) ?_ ?_;rotate_left;(focus first | ((intro w hSw;go_simp;try with_reducible rfl);done) | ((intro w hSw;(have p0:=hSw.2.1;go_simp;try with_reducible rfl));done) | ((intro w hSw;(obtain ⟨r0,r1,r2,rf⟩:=Bk.c3 hSw.1;go_simp;try with_reducible rfl));done) | ((intro w hSw;(have p1:=hSw.2.2;go_simp;try with_reducible rfl));done));try simp only [pt])
     refine pzz ?_;refine dnz ?_;clear hHeld;go_wp2_with fail
     go_roundw
     case rel=>exact⟨j+1,by omega,by go_num,HQ.out,HB.out.drew⟩
     case measure=>simp [intOf];omega
    ·have hy':(y != z)=true:=by simp [hy]
     have HE:=kp (show res=(0,33) by rw [HA.out,HNk.out hy];rfl);clear hy;go_wp2_with fail
     refine wp_region_held_drew (S:=fun W=>W.heap[w.heap.size]?=some (.cells #[.slice A1 g.sorts.length c1,.slice (some ⟨fb,fo,none⟩) g.funs.length c2,.slice A3 g.macros.length c3] 26 (0,0))/\W.cell? ⟨b,o+j,none⟩=some (.int .i64 y)/\W.cell? ⟨fb,fo+k * 6+2+j,none⟩=some (.int .i64 z)) (by kernel_rfl) (⟨SBr.out,P0.out,P1.out⟩) (fun hHeld=>?_);refine plz [0,1,2,3,4,5,6,7,8,9,10,11,12] ?_;iterate 13 (refine tnz (v:=?_) ?_ ?_;rotate_left;(focus first | ((intro w hSw;go_simp;try with_reducible rfl);done) | ((intro w hSw;(have p0:=hSw.2.1;go_simp;try with_reducible rfl));done) | ((intro w hSw;(obtain ⟨r0,r1,r2,rf⟩:=Bk.c3 hSw.1;go_simp;try with_reducible rfl));done) | ((intro w hSw;(have p1:=hSw.2.2;go_simp;try with_reducible rfl));done));try simp only [pt])
     refine pzz ?_;refine dnz ?_;clear hHeld;go_wp2_with fail
     exact HP.out _ _ _ HE.out HBw.out.drew
   ·obtain rfl:j=l.length:=by omega
    have HE:=kp (show res=(x.res,0) by rw [HA.out,argsB_all HTo.out];rfl);obtain ⟨r0,r1,r2,rf⟩:=Bk.c3 SBr.out;obtain ⟨_,_,q1,_,_,_,q5⟩:=HFr.out;go_wp2_with fail
    exact HP.out _ _ _ HE.out HBw.out
 ·have hn3:((l.length:Int) != x.len)=true:=by simp [hn2]
  have HE:=kp (show res=(0,2) by rw [HA.out,if_pos hn2]);go_wp2_with fail
  exact HP.out _ _ _ HE.out B3.out
end El
end Go.Proofs.YtpmdcckapddchaaGreatDoor
