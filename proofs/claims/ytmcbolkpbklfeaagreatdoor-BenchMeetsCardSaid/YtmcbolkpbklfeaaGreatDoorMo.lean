import Derived.Test.YtmcbolkpbklfeaaGreatDoorShort
import Derived.Test.YtmcbolkpbklfeaaGreatDoorMn
/- merged by wip/merge.py from: CmdOption -/
set_option maxRecDepth 100000
set_option maxHeartbeats 51200000
namespace Go.Proofs.YtmcbolkpbklfeaaGreatDoor
namespace Cm
open Go.RowKit Dt
theorem tl_true {t:ByteArray} {l:List UInt8} (h:t=⟨l.toArray⟩):(t.toList == l)=true:=by
 rw [h,Lx.bs_toList];unfold Lx.bs;simp
theorem tl_false {t:ByteArray} {l:List UInt8} (h:t≠⟨l.toArray⟩):(t.toList == l)=false:=by
 rw [beq_eq_false_iff_ne];intro e;rw [Lx.bs_toList] at e;unfold Lx.bs at e;exact h (ByteArray.ext (Array.toList_inj.1 (by rw [e])))
theorem blk_keep {w w':World} {pb b:Nat} {o:Obj} (h:w.heap[b]?=some o) (hk:KeepP pb w w') (hne:b≠pb):w'.heap[b]?=some o:=(hk.block b (lt_of_block h) hne).trans h
def numV (y:Sexp):Int:=parseV (Lx.bs y.text)
def noNum (y:Sexp):Bool:=(smallN y 1048576).isNone
theorem eachO_num:∀ l:List Sexp,eachO (fun y=>smallN y 1048576) l=if l.any noNum then none else some (l.map numV)
 | []=>rfl
 | y :: l=>by
  unfold eachO;rw [eachO_num l,List.any_cons]
  cases h:smallN y 1048576 with
  | none=>rw [show noNum y=true by unfold noNum;rw [h];rfl];rfl
  | some n =>
   rw [show noNum y=false by unfold noNum;rw [h];rfl,Bool.false_or,show n=numV y from(small_some h).1]
   split <;> rfl
theorem optionO_not {r:List Sexp} (h:r.length≠2):optionO r=none:=by
 unfold optionO
 split
 ·exact absurd rfl h
 ·rfl
def optB (xs:List Sexp):Bool:=((((false || !decide (xs.length=3)) || decide (xs.length<=1)) || decide (xs.length<=2)) || !decide ((partS xs 1).kind=2))
theorem optionO_bad {xs:List Sexp} (h:optB xs=true):optionO xs.tail=none:=by
 by_cases h3:xs.length=3
 ·obtain ⟨y,k,x,rfl⟩:=three_of h3;have hk:¬ k.kind=2:=fun e=>by unfold optB at h;simp [partS,e] at h
  show(if k.kind=2 then _ else none)=none;rw [if_neg hk]
 ·exact optionO_not (by rw [List.length_tail];omega)
theorem optionO_good {xs : List Sexp} (h : optB xs = false) : ∃ y k x, xs = [y, k, x] ∧ optionO xs.tail = (if k.text = sBudget then (smallN x 1048576).map fun n => { noCmd with kind := 1, name := k.text, n := n }
   else if k.text=sSeeds then(seedsN x).map fun l=>{ noCmd with kind:=1,name:=k.text,l:=l } else none):=by
 have h3:xs.length=3:=by
  by_cases h3:xs.length=3
  ·exact h3
  ·unfold optB at h;simp [h3] at h
 obtain ⟨y,k,x,rfl⟩:=three_of h3
 have hk:k.kind=2:=by
  by_cases hk:k.kind=2
  ·exact hk
  ·unfold optB at h;simp [partS,hk] at h
 refine⟨y,k,x,rfl,?_⟩;show(if k.kind=2 then _ else none)=_;rw [if_pos hk]
theorem opt_budget {w':World} {xs:List Sexp} {cv:Nat->Value} (hs:(partS xs 1).text=sBudget)
  (hcv:cells8 cv=[.int .i8 1,.string (partS xs 1).text,.int .i64 (numV (partS xs 2)),.slice none 0 0,.slice none 0 0,.slice none 0 0,.string noS,.slice none 0 0]) :
  Made w' cv (optB xs || (smallN (partS xs 2) 1048576).isNone) (optionO xs.tail):=by
 cases hb:optB xs with
 | true=>rw [optionO_bad hb];show _=true;simp
 | false =>
  obtain ⟨y,k,x,rfl,e⟩:=optionO_good hb;rw [e,if_pos (show k.text=sBudget from hs)];have e2:partS [y,k,x] 2=x:=rfl;have e1:partS [y,k,x] 1=k:=rfl;rw [e2,e1] at hcv;rw [e2];rw [e1] at hs
  cases hn:smallN x 1048576 with
  | none=>show _=true;rfl
  | some n =>
   obtain ⟨q1,q2,q3⟩:=small_some hn;refine⟨rfl,?_⟩;rw [hcv,show numV x=n from q1.symm];exact cmdR_zero w' { noCmd with kind:=1,name:=k.text,n:=n } rfl rfl rfl rfl (show(Lit.int .i8 1).wf=true by decide) (show I64 n from⟨by omega,by omega⟩) (show((k.text.size:Nat):Int)<=140737488351232 by rw [hs];decide) (show((noS.size:Nat):Int)<=140737488351232 by decide)
theorem opt_seeds {w':World} {A:Option Addr} {c:Nat} {xs:List Sexp} {cv:Nat->Value} (hn:(partS xs 1).text≠sBudget) (hs:(partS xs 1).text=sSeeds)
  (hl:Lies 1 (One (Value.int .i64)) w' A ((okL (optB xs) (partS xs 2) 0 64).map numV)) (h1:(okL (optB xs) (partS xs 2) 0 64).length<=c) (h2:c<=maxLen)
  (hcv:cells8 cv=[.int .i8 1,.string (partS xs 1).text,.int .i64 0,.slice A (okL (optB xs) (partS xs 2) 0 64).length c,.slice none 0 0,.slice none 0 0,.string noS,.slice none 0 0]) :
  Made w' cv ((optB xs || !sized (partS xs 2) 0 64) || (okL (optB xs) (partS xs 2) 0 64).any noNum) (optionO xs.tail):=by
 cases hb:optB xs with
 | true=>rw [optionO_bad hb];show _=true;simp
 | false =>
  rw [hb] at hl h1 hcv;obtain ⟨y,k,x,rfl,e⟩:=optionO_good hb;rw [e,if_neg (show k.text≠sBudget from hn),if_pos (show k.text=sSeeds from hs)];have e2:partS [y,k,x] 2=x:=rfl;have e1:partS [y,k,x] 1=k:=rfl;rw [e2,e1] at hcv;rw [e2] at hl h1 ⊢;rw [e1] at hs;unfold seedsN listN
  by_cases h3:x.kind=3
  ·rw [if_pos h3,Option.bind_some]
   by_cases h64:x.l.length<=64
   ·have hz:sized x 0 64=true:=by unfold sized;simp [h3,h64]
    have ho:okL false x 0 64=x.l:=by unfold okL;rw [hz];rfl
    rw [ho] at hl h1 hcv ⊢;rw [hz,if_pos h64,eachO_num]
    cases ha:x.l.any noNum with
    | true=>show _=true;simp
    | false =>
     refine⟨rfl,?_⟩;rw [hcv]
     have hli:Lies 1 (IntR .i64) w' A (x.l.map numV):=hl.imp rfl (fun i a b vs ha1 hb1 hr=>by
      rw [ha1] at hb1;obtain rfl:=Option.some.inj hb1;refine⟨hr,?_⟩;obtain ⟨z,hz1,rfl⟩:=List.mem_map.1 (mgq ha1)
      have hzn:noNum z=false:=by
       cases hq:noNum z with
       | false=>rfl
       | true=>rw [List.any_eq_true.2 ⟨z,hz1,hq⟩] at ha;cases ha
      unfold noNum at hzn
      obtain ⟨n,hn⟩:∃ n,smallN z 1048576=some n:=by
       cases h:smallN z 1048576 with
       | none=>rw [h] at hzn;cases hzn
       | some n=>exact⟨n,rfl⟩
      obtain ⟨q1,q2,q3⟩:=small_some hn;exact WalkArith.wf_i64 (show I64 (numV z) from⟨by unfold numV;omega,by unfold numV;omega⟩))
     refine⟨A,c,none,0,none,0,none,0,by simp [cmdCells,noCmd],?_⟩;exact⟨hli,.inl rfl,.inl rfl,.inl rfl,by simpa using h1,nlq,nlq,nlq,h2,Nat.zero_le _,Nat.zero_le _,Nat.zero_le _,Nat.zero_le _,(by decide:(Lit.int .i8 1).wf=true),(show I64 0 from⟨by decide,by decide⟩),(show((k.text.size:Nat):Int)<=140737488351232 by rw [hs];decide),(show((noS.size:Nat):Int)<=140737488351232 by decide)⟩
   ·have hz:sized x 0 64=false:=by unfold sized;simp [h64]
    rw [if_neg h64,hz];show _=true;simp
  ·have hz:sized x 0 64=false:=by unfold sized;simp [h3]
   rw [if_neg h3,hz];show _=true;simp
theorem opt_other {w':World} {xs:List Sexp} {cv:Nat->Value} (hn:(partS xs 1).text≠sBudget) (hs:(partS xs 1).text≠sSeeds):Made w' cv true (optionO xs.tail):=by
 have e:optionO xs.tail=none:=by
  cases hb:optB xs with
  | true=>exact optionO_bad hb
  | false =>
   obtain ⟨y,k,x,rfl,e⟩:=optionO_good hb;rw [e,if_neg (show k.text≠sBudget from hn),if_neg (show k.text≠sSeeds from hs)]
 rw [e];exact(rfl:true=true)
theorem option_any {W0 w:World} {pb:Nat} {A:Option Addr} {c:Nat} {xs:List Sexp} (h:ParB w pb (.slice A xs.length c) zeroV false) (hx:Lies 3 SexpR W0 A xs) (hb:Below W0.heap.size W0 w) (hp:W0.heap.size<=pb) :
  Calls Tryz.prog 71 #[ptrP pb] w (FormPost W0.heap.size w pb (.slice A xs.length c) (optionO xs.tail)):=by
 have HLt:=kp h.lt;have HK:=kp (kind_any h 1 3);have HJ:=kp (fun W cv b (hW:ParB W pb (.slice A xs.length c) cv b) (hB:Below W0.heap.size W0 W) k=>part_any hW hx hB k);have HI:=kp (fun W cv b (hW:ParB W pb (.slice A xs.length c) cv b) q=>is_any hW q);have HLs:=kp (fun W cv b (hW:ParB W pb (.slice A xs.length c) cv b) A' c' y hn=>list_any hW y A' c' 0 64 hn);have HNu:=kp (fun W cv b (hW:ParB W pb (.slice A xs.length c) cv b) A' c' y ht=>number_any hW y A' c' ht 1048576);have HB:=kp hb;have HT:=kp (fun k=>partS_size hx k);clear h hx hb;unfold ptrP at *
 go_enter Tryz.func71,Tryz.ntmps71
 go_wp2_with fail
 refine HK.out.mono ?_;rintro e w1 ⟨rfl,h1,k1⟩;have P1:=kp h1;have K1:=kp k1;have B1:=kp (HB.out.trans (keepP_below k1 hp HB.out.size));clear h1 k1;go_wp2_with fail
 refine(HJ.out _ _ _ P1.out B1.out 1).mono ?_;rintro e w2 ⟨A2,c2,⟨rfl,r2⟩,h2,k2⟩;have P2:=kp h2;have K2:=kp (K1.out.trans_same k2);have B2:=kp (HB.out.trans (keepP_below K2.out hp HB.out.size));clear h2 k2 r2;go_wp2_with fail
 refine(HJ.out _ _ _ P2.out B2.out 2).mono ?_;rintro e w3 ⟨A3,c3,⟨rfl,r3⟩,h3,k3⟩;have P3:=kp h3;have K3:=kp (K2.out.trans_same k3);have R3:=kp r3;clear h3 k3 r3;generalize hky:partS xs 1=ky at *;generalize hx2:partS xs 2=x2 at *;unfold agS;go_upto_region 2 with fail
 have HP4:=(P3.out.below ((Below.refl _ _).alloc nlq (.cells #[.int .i8 ky.kind,.string ky.text,.slice A2 ky.l.length c2] 81)));have P4:=kp (HP4.below ((Below.refl _ _).alloc nlq (.cells #[.int .i8 x2.kind,.string x2.text,.slice A3 x2.l.length c3] 81)));have K4:=kp ((K3.out.alloc (.cells #[.int .i8 ky.kind,.string ky.text,.slice A2 ky.l.length c2] 81)).alloc (.cells #[.int .i8 x2.kind,.string x2.text,.slice A3 x2.l.length c3] 81));have X4:=kp (show((w3.alloc (.cells #[.int .i8 ky.kind,.string ky.text,.slice A2 ky.l.length c2] 81)).alloc (.cells #[.int .i8 x2.kind,.string x2.text,.slice A3 x2.l.length c3] 81)).heap[w3.heap.size]?=_ from(Below.heap_alloc _ _ _ (by simp)).trans (blk_new w3 (.cells #[.int .i8 ky.kind,.string ky.text,.slice A2 ky.l.length c2] 81)))
 have Y4:=kp (show((w3.alloc (.cells #[.int .i8 ky.kind,.string ky.text,.slice A2 ky.l.length c2] 81)).alloc (.cells #[.int .i8 x2.kind,.string x2.text,.slice A3 x2.l.length c3] 81)).heap[w3.heap.size+1]?=some (.cells #[.int .i8 x2.kind,.string x2.text,.slice A3 x2.l.length c3] 81 (0,0)) from by
  have h:=blk_new (w3.alloc (.cells #[.int .i8 ky.kind,.string ky.text,.slice A2 ky.l.length c2] 81)) (.cells #[.int .i8 x2.kind,.string x2.text,.slice A3 x2.l.length c3] 81);have e:(w3.alloc (.cells #[.int .i8 ky.kind,.string ky.text,.slice A2 ky.l.length c2] 81)).heap.size=w3.heap.size+1:=by simp
  rw [e] at h;exact h)
 have HNe:=kp (show pb < w3.heap.size from P3.out.lt);clear HP4;generalize ((w3.alloc (.cells #[.int .i8 ky.kind,.string ky.text,.slice A2 ky.l.length c2] 81)).alloc (.cells #[.int .i8 x2.kind,.string x2.text,.slice A3 x2.l.length c3] 81))=w4 at *;generalize w3.heap.size=n3 at *;obtain ⟨y0,y1,y2,yf⟩:=three_cells X4.out;have hk2:(ky.kind == 2)=decide (ky.kind=2):=rfl;go_wp2_with fail
 refine(HI.out _ _ _ P4.out (decide (ky.kind=2))).mono ?_;rintro e w5 ⟨rfl,h5,k5⟩;have K5:=kp (K4.out.trans_same k5);have X5:=kp (blk_keep X4.out k5 (by have:=HNe.out;omega));have Y5:=kp (blk_keep Y4.out k5 (by have:=HNe.out;omega));have f2:=h5.free 2;have d2:=h5.cell 1 (by omega);have P6:=kp (h5.setCmd 1 (by omega) (.string ky.text));have K6:=kp (K5.out.setCell (p:=⟨pb,1+1,none⟩) (.inl rfl) (.string ky.text));have X6:=kp ((Below.heap_setCell w5 ⟨pb,1+1,none⟩ (.string ky.text) n3 (by have:=HNe.out;show n3≠pb;omega)).trans X5.out);have Y6:=kp ((Below.heap_setCell w5 ⟨pb,1+1,none⟩ (.string ky.text) (n3+1) (by have:=HNe.out;show n3+1≠pb;omega)).trans Y5.out);clear h5 k5 y0 y1 y2 yf hk2;obtain ⟨y0,y1,y2,yf⟩:=three_cells X5.out;have HOB:=kp (show((((false || !decide (xs.length=3)) || decide (xs.length<=1)) || decide (xs.length<=2)) || !decide (ky.kind=2))=optB xs by unfold optB;rw [hky]);rw [HOB.out] at P6;go_upto_region 4 with fail
 change Code.wp _ _ _ _ (w5.setCell ⟨pb,1+1,none⟩ (.string ky.text))
 generalize w5.setCell ⟨pb,1+1,none⟩ (.string ky.text)=w6 at *;clear d2 f2 y0 y1 y2 yf X4 Y4 P4 K4;obtain ⟨y0,y1,y2,yf⟩:=three_cells X6.out
 by_cases hB:ky.text=sBudget
 ·have hB':(ky.text.toList == [98,117,100,103,101,116])=true:=tl_true hB;have hTy:=kp (show((x2.text.size:Nat):Int)<=140737488351232 by have:=HT.out 2;rw [hx2] at this;exact this);have HE:=kp (fun w' cv=>opt_budget (w':=w') (xs:=xs) (cv:=cv) (by rw [hky];exact hB));clear y0 y1 y2 yf hB;obtain ⟨u0,u1,u2,uf⟩:=three_cells Y6.out;obtain ⟨y0,y1,y2,yf⟩:=three_cells X6.out;go_wp2_with fail
  refine(HNu.out _ _ _ P6.out A3 c3 x2 hTy.out).mono ?_;rintro e w7 ⟨rfl,h7,k7⟩;have P7:=kp h7;have K7:=kp (K6.out.trans_same k7);have f3:=h7.free 3;have d3:=h7.cell 2 (by omega);clear h7 k7 u0 u1 u2 uf y0 y1 y2 yf;rw [hx2,hky] at HE;go_wp2_with fail
  go_end0
  exact⟨_,_,rfl,P7.out.setCmd 2 (by omega) _,K7.out.setCell (.inl rfl) _,fun W' _=>HE.out W' _ rfl⟩
 ·have hB':(ky.text.toList == [98,117,100,103,101,116])=false:=tl_false hB
  by_cases hS:ky.text=sSeeds
  ·have hS':(ky.text.toList == [115,101,101,100,115])=true:=tl_true hS;have HE:=kp (fun w' A c cv hl h1 h2=>opt_seeds (w':=w') (xs:=xs) (A:=A) (c:=c) (cv:=cv) (by rw [hky];exact hB) (by rw [hky];exact hS) hl h1 h2);rw [hky,hx2] at HE;obtain ⟨_,_,e4,hl4,_,_,_,hlb4,_⟩:=R3.out.open';simp only [List.cons.injEq,Value.slice.injEq,and_true,true_and] at e4;obtain ⟨rfl,rfl⟩:=e4;clear y0 y1 y2 yf hB hS;obtain ⟨u0,u1,u2,uf⟩:=three_cells Y6.out;obtain ⟨y0,y1,y2,yf⟩:=three_cells X6.out;go_wp2_with fail
   refine(HLs.out _ _ _ P6.out A3 c3 x2 (by omega)).mono ?_;rintro e w7 ⟨rfl,h7,k7⟩
   obtain ⟨Av,cw,hV,hlv,hll⟩:∃ Av cw,(if optB xs || !sized x2 0 64 then .slice none 0 0 else .slice A3 x2.l.length c3:Value)=.slice Av (okL (optB xs) x2 0 64).length cw/\Lies 3 SexpR W0 Av (okL (optB xs) x2 0 64)/\(okL (optB xs) x2 0 64).length<=4398046511104:=by
    unfold okL
    split
    ·exact⟨none,0,rfl,.inl rfl,Nat.zero_le _⟩
    ·exact⟨A3,c3,rfl,hl4,by omega⟩
   rw [hV];have HL:=kp hlv;have HLen:=kp hll;have P7:=kp h7;have K7:=kp (K6.out.trans_same k7);clear h7 k7 hV hlv hll hl4 hlb4 u0 u1 u2 uf y0 y1 y2 yf HLs;generalize (okL (optB xs) x2 0 64)=ys at *;generalize (optB xs || !sized x2 0 64)=q at *;obtain ⟨i0,hi0,z0,z1,z2⟩:=info_parts info_int;have I0:=kp hi0;have I1:=kp z0;have I2:=kp z1;have I3:=kp z2;clear hi0 z0 z1 z2;go_wp2_with fail
   go_loopw [43] (fun i' wr=>∃ k:Nat,k<=ys.length/\i'=.int .i64 k/\∃ v':Value,Grows 1 (One (Value.int .i64)) 3 W0 w.heap.size wr v' ((ys.take k).map numV)/\ParB wr pb (.slice A xs.length c) (upv (upv (upv zeroV 0 (.int .i8 1)) 1 (.string ky.text)) 3 v') (q || (ys.take k).any noNum)/\KeepP pb w wr) (fun i' _=>ys.length - (intOf i').toNat)
   case atStart =>
    refine⟨0,Nat.zero_le _,rfl,.slice none 0 0,Grows.nil _,?_,K7.out⟩;have h:=P7.out
    have e:upv (upv (upv zeroV 0 (.int .i8 1)) 1 (.string ky.text)) 3 (.slice none 0 0)=upv (upv zeroV 0 (.int .i8 1)) 1 (.string ky.text):=by
     funext j
     unfold upv
     by_cases hj:j=3
     ·subst hj;rfl
     ·rw [if_neg hj]
    rw [e];simpa using h
   case round =>
    obtain ⟨k,hk,rfl,v',hg,hpr,hkp⟩:=hrel;have HG:=kp hg;have HPr:=kp hpr;have HKp:=kp hkp;obtain ⟨vals,ho,hrr⟩:=hg.row;have hlk:((ys.take k).map numV).length=k:=by simp;omega
    have hvl:vals.length=((ys.take k).map numV).length * 1:=ho.1;rw [hlk] at ho;obtain ⟨Ao,co,rfl⟩:=shape_of_owns ho;have HOw:=kp ho;have HRr:=kp hrr;have HLk:=kp hlk;have HVl:=kp hvl;clear hg hpr ho hrr hlk hvl
    by_cases hlt:k < ys.length
    ·have hlt2:(k:Int) < (ys.length:Int):=by omega
     have hyk:=gqe hlt;generalize ys[k]=y at hyk;have HBr:=kp (HB.out.trans (keepP_below hkp hp HB.out.size));obtain ⟨bb,o,A6,c6,rfl,hbl,e0,e1,e2,hr2⟩:=sexp_cells (HL.out.on SexpR.lasts HBr.out) hyk;have HSt:=kp (show(y.text.size:Int)<=140737488351232 by obtain ⟨_,_,_,_,_,_,h1,_⟩:=hr2.open';exact h1);have HAn:=kp (any_take (f:=noNum) hyk);have HMp:=kp (map_take' (f:=numV) hyk);have HSz:=kp hkp.size;have HLp:=kp HPr.out.lt;have PB:=kp ((HPr.out.below ((Below.refl _ _).alloc nlq (.cells #[.int .i8 y.kind,.string y.text,.slice A6 y.l.length c6] 81))).below (Below.refl _ _).drew);have KB:=kp (show KeepP pb w (wr.alloc (.cells #[.int .i8 y.kind,.string y.text,.slice A6 y.l.length c6] 81)).drew from(hkp.alloc _).drew);have XB:=kp (show(wr.alloc (.cells #[.int .i8 y.kind,.string y.text,.slice A6 y.l.length c6] 81)).drew.heap[wr.heap.size]?=some (.cells #[.int .i8 y.kind,.string y.text,.slice A6 y.l.length c6] 81 (0,0)) from blk_new wr _);have OB:=kp (show World.ownsRow (wr.alloc (.cells #[.int .i8 y.kind,.string y.text,.slice A6 y.l.length c6] 81)).drew w.heap.size 3 1 (.slice Ao k co) k vals from(HOw.out.alloc _).drew);clear hkp hr2 hyk;go_wp2_with fail
     have hk48:k < 4398046511104:=Nat.lt_of_lt_of_le hlt HLen.out;obtain ⟨q0,q1,q2,_⟩:=three_cells XB.out;refine wp_region_to (by kernel_rfl) (fun W=>W.cell? ⟨pb,4,none⟩=some (.slice Ao k co)/\W.cell? ⟨wr.heap.size,0,none⟩=some (.int .i8 y.kind)/\W.cell? ⟨wr.heap.size,1,none⟩=some (.string y.text)/\W.cell? ⟨wr.heap.size,2,none⟩=some (.slice A6 y.l.length c6)) 14 (⟨PB.out.cell 3 (by omega),q0,q1,q2⟩) (fun hHeld=>?_);clear e0 e1 e2 q0 q1 q2;refine wpTo_take (i:=0) (oi:=Oper.mk _ _ _ _ _ _) (v:=?_) rfl (by kernel_rfl) (by kernel_rfl) (by kernel_rfl) (by kernel_rfl) (fun _ _ _ h=>h) (Or.inl ⟨by rfl,?_⟩) (by assumption) ?_;rotate_left
     ·(intro w hSw;go_simp;try with_reducible rfl)
     try simp only [pt]
     refine wpTo_take (i:=1) (oi:=Oper.mk _ _ _ _ _ _) (v:=?_) rfl (by kernel_rfl) (by kernel_rfl) (by kernel_rfl) (by kernel_rfl) (fun _ _ _ h=>h) (Or.inl ⟨by rfl,?_⟩) (by assumption) ?_;rotate_left
     ·(intro w hSw;go_simp;try with_reducible rfl)
     try simp only [pt]
     refine wpTo_take (i:=2) (oi:=Oper.mk _ _ _ _ _ _) (v:=?_) rfl (by kernel_rfl) (by kernel_rfl) (by kernel_rfl) (by kernel_rfl) (fun _ _ _ h=>h) (Or.inl ⟨by rfl,?_⟩) (by assumption) ?_;rotate_left
     ·(intro w hSw;go_simp;try with_reducible rfl)
     try simp only [pt]
     refine wpTo_take (i:=3) (oi:=Oper.mk _ _ _ _ _ _) (v:=?_) rfl (by kernel_rfl) (by kernel_rfl) (by kernel_rfl) (by kernel_rfl) (fun _ _ _ h=>h) (Or.inl ⟨by rfl,?_⟩) (by assumption) ?_;rotate_left
     ·(intro w hSw;go_simp;try with_reducible rfl)
     try simp only [pt]
     refine wpTo_take (i:=4) (oi:=Oper.mk _ _ _ _ _ _) (v:=?_) rfl (by kernel_rfl) (by kernel_rfl) (by kernel_rfl) (by kernel_rfl) (fun _ _ _ h=>h) (Or.inl ⟨by rfl,?_⟩) (by assumption) ?_;rotate_left
     ·(intro w hSw;go_simp;try with_reducible rfl)
     try simp only [pt]
     refine wpTo_take (i:=5) (oi:=Oper.mk _ _ _ _ _ _) (v:=?_) rfl (by kernel_rfl) (by kernel_rfl) (by kernel_rfl) (by kernel_rfl) (fun _ _ _ h=>h) (Or.inl ⟨by rfl,?_⟩) (by assumption) ?_;rotate_left
     ·(intro w hSw;go_simp;try with_reducible rfl)
     try simp only [pt]
     refine wpTo_take (i:=6) (oi:=Oper.mk _ _ _ _ _ _) (v:=?_) rfl (by kernel_rfl) (by kernel_rfl) (by kernel_rfl) (by kernel_rfl) (fun _ _ _ h=>h) (Or.inl ⟨by rfl,?_⟩) (by assumption) ?_;rotate_left
     ·(intro w hSw;go_simp;try with_reducible rfl)
     try simp only [pt]
     refine wpTo_take (i:=7) (oi:=Oper.mk _ _ _ _ _ _) (v:=?_) rfl (by kernel_rfl) (by kernel_rfl) (by kernel_rfl) (by kernel_rfl) (fun _ _ _ h=>h) (Or.inl ⟨by rfl,?_⟩) (by assumption) ?_;rotate_left
     ·(intro w hSw;go_simp;try with_reducible rfl)
     try simp only [pt]
     refine wpTo_step (i:=8) (o:=Oper.mk _ _ _ _ _ _) (by kernel_rfl) rfl (fun K hK=>?_);go_simp
     go_wp2_with (go_at_call 115;refine(HNu.out _ _ _ PB.out A6 c6 y HSt.out).mono ?_;rintro e w8 ⟨rfl,h8,k8⟩;have X8:=kp (blk_keep XB.out k8 (by have:=HLp.out;omega));obtain ⟨q0,q1,q2,_⟩:=three_cells X8.out)
     refine hK.out _ _ (⟨h8.cell 3 (by omega),q0,q1,q2⟩) (fun hHeld=>?_);clear hK K;try simp only [pt]
     have P8:=kp h8;have K8:=kp (KB.out.trans_same k8);have O8:=kp (owns_keep OB.out k8 (fun j hj=>by subst hj;exact HLt.out));have S8:=kp (show wr.heap.size+1<=w8.heap.size by have:=k8.size;simp at this;exact this);have PA:=kp (h8.below ((Below.refl _ _).alloc nlq (.cells #[.int .i64 (parseV (Lx.bs y.text))] 3)));have OA:=kp (show World.ownsRow (w8.alloc (.cells #[.int .i64 (parseV (Lx.bs y.text))] 3)) w.heap.size 3 1 (.slice Ao k co) k vals from O8.out.alloc _);have XA:=kp ((Below.heap_alloc w8 (.cells #[.int .i64 (parseV (Lx.bs y.text))] 3) wr.heap.size (lt_of_block X8.out)).trans X8.out);have CA:=kp (Cells.new w8 [.int .i64 (parseV (Lx.bs y.text))] 3 (0,0));obtain ⟨r0,r1,r2,_⟩:=three_cells XA.out;clear h8 k8 q0 q1 q2;refine wpTo_step (i:=9) (o:=Oper.mk _ _ _ _ _ _) (by kernel_rfl) rfl (fun K hK=>?_);go_simp;refine hK.out _ _ (⟨PA.out.cell 3 (by omega),r0,r1,r2⟩) (fun hHeld=>?_);clear hK K;try simp only [pt]
     clear r0 r1 r2;refine wpTo_step (i:=10) (o:=Oper.mk _ _ _ _ _ _) (by kernel_rfl) rfl (fun K hK=>?_)
     (refine step_append_at (by rfl) _ _ _ (by rfl) w.heap.size 3 i0 (.int .i64 0) 1 8 Tryz.underlying97 I0.out I1.out I2.out I3.out rfl (by decide) (.slice Ao k co) k vals (by rfl) OA.out (some ⟨w8.heap.size,0,none⟩) 1 1 [.int .i64 (parseV (Lx.bs y.text))] (by rfl) rfl CA.out (by simp [Value.oneCell']) (by unfold maxLen;omega) (by omega) (by have:=S8.out;have:=HSz.out;simp;omega) ?_;intro v' w9 hown hgr hat;obtain ⟨A9,c9,rfl⟩:=shape_of_owns hown;have P9:=kp (PA.out.grown hgr (fun e=>by have:=(OA.out.lt pb e).1;have:=HLt.out;omega));have X9:=(hgr.block wr.heap.size (lt_of_block XA.out) (fun e=>by have:=(HOw.out.lt _ e.symm).2;omega)).trans XA.out;obtain ⟨r0,r1,r2,_⟩:=three_cells X9)
     refine hK.out _ _ (⟨P9.out.cell 3 (by omega),r0,r1,r2⟩) (fun hHeld=>?_);clear hK K;try simp only [pt]
     have HG9:=kp (show Grows 1 (One (Value.int .i64)) 3 W0 w.heap.size w9 (.slice A9 (k+1) c9) ((ys.take (k+1)).map numV) from by
      rw [HMp.out];exact Grows.push (vs:=[.int .i64 (numV y)]) HVl.out HRr.out (by rw [HLk.out];exact hown) rfl rfl)
     have HK9:=kp (show KeepP pb w w9 from(K8.out.alloc _).grown hgr (fun j hj=>.inr (OA.out.lt j hj).1));clear hown hgr hat X9 r0 r1 r2;refine wpTo_step (i:=11) (o:=Oper.mk _ _ _ _ _ _) (by kernel_rfl) rfl (fun K hK=>?_);go_simp;refine hK.out _ _ ((by assumption)) (fun hHeld=>?_);clear hK K;try simp only [pt]
     refine wpTo_step (i:=12) (o:=Oper.mk _ _ _ _ _ _) (by kernel_rfl) rfl (fun K hK=>?_);go_simp;refine hK.out _ _ ((by assumption)) (fun hHeld=>?_);clear hK K;try simp only [pt]
     refine wpTo_step (i:=13) (o:=Oper.mk _ _ _ _ _ _) (by kernel_rfl) rfl (fun K hK=>?_);go_simp;refine hK.out _ _ ((by assumption)) (fun hHeld=>?_);clear hK K;try simp only [pt]
     have pf:=P9.out.free 4;have pc:=P9.out.cell 3 (by omega);refine wpTo_last (o:=Oper.mk _ _ _ _ _ _) (by kernel_rfl) rfl (fun K hK=>?_);go_simp;refine hK.out _ _ ?_;clear hK K;try simp only [pt]
     refine wpTo_done (by kernel_rfl) ?_ _;clear pf pc;have HP10:=kp (P9.out.setCmd 3 (by omega) (.slice A9 (k+1) c9));have HK10:=kp (HK9.out.setCell (p:=⟨pb,1+3,none⟩) (.inl rfl) (.slice A9 (k+1) c9));have HG10:=kp (HG9.out.setCell (p:=⟨pb,1+3,none⟩) (.slice A9 (k+1) c9) HLt.out);go_wp2_with fail
     go_roundw
     case rel=>exact⟨k+1,by omega,by go_num,.slice A9 (k+1) c9,HG10.out,by rw [HAn.out,← Bool.or_assoc];have h:=HP10.out;rw [upv_upv] at h;exact h,HK10.out⟩
     case measure=>simp [intOf];omega
    ·obtain rfl:k=ys.length:=by omega
     have HPe:=kp (show ParB wr pb (.slice A xs.length c) (upv (upv (upv zeroV 0 (.int .i8 1)) 1 (.string ky.text)) 3 (.slice Ao ys.length co)) (q || ys.any noNum) by have h:=HPr.out;rw [List.take_length] at h;exact h)
     have HNL:=kp (show NewLies 1 (One (Value.int .i64)) w.heap.size wr Ao (ys.map numV) from grows_new (n:=1) (t:=3) (w0:=W0) (c:=co) (fun _ _ _ _ h=>h) (by
      have h:=HG.out;rw [List.take_length] at h;rw [List.length_map];exact h))
     have HSh:=kp (show ys.length<=co/\co<=maxLen by
      obtain ⟨A9,c9,e,h1,h2⟩:=HG.out.shape;simp only [Value.slice.injEq] at e;obtain ⟨_,_,rfl⟩:=e;rw [HLk.out] at h1;exact⟨h1,h2⟩)
     clear hkp;go_wp2_with fail
     go_end0
     exact⟨_,_,rfl,HPe.out,HKp.out,fun W' hW=>HE.out W' Ao co _ (HNL.out.keep (fun _ _ _ _ h=>h) hW (fun j hj=>Nat.lt_trans hj.2 HLt.out)).lies HSh.out.1 HSh.out.2 rfl⟩
  ·have hS':(ky.text.toList == [115,101,101,100,115])=false:=tl_false hS;have HE:=kp (fun w' cv=>opt_other (w':=w') (xs:=xs) (cv:=cv) (by rw [hky];exact hB) (by rw [hky];exact hS));clear hB hS;have f9:=P6.out.free 9;have d9:=P6.out.badc;go_wp2_with fail
   go_end0
   exact⟨_,_,rfl,P6.out.setBad true,K6.out.setCell (.inl rfl) _,fun W' _=>HE.out W' _⟩
end Cm
end Go.Proofs.YtmcbolkpbklfeaaGreatDoor
