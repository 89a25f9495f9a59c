import Derived.Test.YtmcbolkpbklfeaaGreatDoorShort
import Derived.Test.YtmcbolkpbklfeaaGreatDoorMzd
import Derived.Test.YtmcbolkpbklfeaaGreatDoorMzb
import Derived.Test.YtmcbolkpbklfeaaGreatDoorMw
import Derived.Test.YtmcbolkpbklfeaaGreatDoorMd
import Derived.WalkSmall
/- merged by wip/merge.py from: TyTable DrRight DrPush -/
set_option maxRecDepth 100000
set_option maxHeartbeats 51200000
namespace Go.Proofs.YtmcbolkpbklfeaaGreatDoor
namespace El
open Go.RowKit Dt Sg
def sortedN (g:Sig) (t:List Node) (n:Node):Bool:=decide ((sortProg g t n).2=0) && decide ((sortProg g t n).1=n.sort)
def sortedB (g:Sig) (t:List Node):Bool:=t.all fun n=>sortedN g t n
def tableE (g:Sig) (t:List Node):Int:=if checkE g≠0\/checkTE t≠0 then 2 else if sortedB g t then 0 else 33
theorem sortedB_stop {g:Sig} {t:List Node} {k:Nat} {n:Node} (hn:t[k]?=some n) (h:sortedN g t n=false):sortedB g t=false:=by
 unfold sortedB;rw [List.all_eq_false];exact⟨n,mgq hn,by rw [h];simp⟩
theorem sortedB_all {g:Sig} {t:List Node} (h:∀ k n,k < t.length->t[k]?=some n->sortedN g t n=true):sortedB g t=true:=by
 unfold sortedB;rw [List.all_eq_true];intro x hx;obtain ⟨k,hk⟩:=List.getElem?_of_mem hx;exact h k x (gqs hk).1 hk
theorem check_stands {t:List Node} (h:checkTE t=0) {k:Nat} {n:Node} (hn:t[k]?=some n):standsN n k=true:=by
 unfold checkTE at h
 split at h
 ·rename_i hc
  unfold checkT at hc;simp only [Bool.and_eq_true] at hc;have h2:=hc.1.2;unfold standsTo at h2;rw [List.all_eq_true] at h2;have:=h2 k (List.mem_range.2 (gqs hn).1)
  rwa [hn] at this
 ·cases h
theorem tytable_any {w:World} {A1 A2 A3:Option Addr} {c1 c2 c3:Nat} {g:Sig} (h:SigAt w A1 c1 A2 c2 A3 c3 g) (hl1:g.sorts.length<=1000000) (hl2:g.funs.length<=1000000) (hl3:g.macros.length<=1000000) {A:Option Addr} {t:List Node} {c:Nat} (ht:Lies 8 NodeR w A t) (hn:t.length<=1000000) (hc:t.length<=c) (hcm:c<=maxLen) :
  Calls Tryz.prog 120 #[.agg #[.slice A1 g.sorts.length c1,.slice A2 g.funs.length c2,.slice A3 g.macros.length c3],.agg #[.slice A t.length c]] w fun e w'=>e=.returned (.int .i64 (tableE g t))/\Below w.heap.size w w':=by
 have HE:=kp (show tableE g t=if checkE g≠0\/checkTE t≠0 then 2 else if sortedB g t then 0 else 33 from rfl);have HT:=kp ht;have HS:=kp h;have HCs:=kp (fun W (hW:Below w.heap.size w W)=>check_any (h.on hW) (by omega) (by omega) (by omega));have HCt:=kp (fun W (hW:Below w.heap.size w W)=>tcheck_any (ht.on NodeR.lasts hW) hn hc hcm);have HSt:=kp (fun(hz:checkTE t=0) k n hk=>check_stands hz (k:=k) (n:=n) hk);have HSo:=kp (fun(hg:checkE g=0) W (hW:Below w.heap.size w W) n (hi:NodeI n) (a:Int) (hs:standsN n a=true) (ha:a<=t.length)=>tysort_any (h.on hW) hg hl1 hl2 hl3 c (ht.on NodeR.lasts hW) hi hs ha);have S1:=kp (Bk.keep (Bk.new w (.cells #[.slice A1 g.sorts.length c1,.slice A2 g.funs.length c2,.slice A3 g.macros.length c3] 93)) (.cells #[.slice A t.length c] 96));have T1:=kp (Bk.new (w.alloc (.cells #[.slice A1 g.sorts.length c1,.slice A2 g.funs.length c2,.slice A3 g.macros.length c3] 93)) (.cells #[.slice A t.length c] 96));rw [show(w.alloc (.cells #[.slice A1 g.sorts.length c1,.slice A2 g.funs.length c2,.slice A3 g.macros.length c3] 93)).heap.size=w.heap.size+1 by simp] at T1;have B1:=kp (((brq w).alloc nlq (.cells #[.slice A1 g.sorts.length c1,.slice A2 g.funs.length c2,.slice A3 g.macros.length c3] 93)).alloc (by simp) (.cells #[.slice A t.length c] 96));have Z1:=kp (show w.heap.size+2<=((w.alloc (.cells #[.slice A1 g.sorts.length c1,.slice A2 g.funs.length c2,.slice A3 g.macros.length c3] 93)).alloc (.cells #[.slice A t.length c] 96)).heap.size by simp)
 clear h ht;generalize tableE g t=res at *;have HAll:=kp (fun h=>sortedB_all (g:=g) (t:=t) h);have HStop:=kp (fun k n hn h=>sortedB_stop (g:=g) (t:=t) (k:=k) (n:=n) hn h);generalize sortedB g t=sb at *
 go_enter Tryz.func120,Tryz.ntmps120
 go_upto_region 1 with fail
 generalize (w.alloc (.cells #[.slice A1 g.sorts.length c1,.slice A2 g.funs.length c2,.slice A3 g.macros.length c3] 93)).alloc (.cells #[.slice A t.length c] 96)=w1 at *;obtain ⟨s0,s1,s2,sf⟩:=Bk.c3 S1.out;go_wp2_with fail
 refine(HCs.out w1 B1.out).mono ?_;rintro e w2 ⟨rfl,hb2⟩;have B2:=kp (B1.out.trans (hb2.mono B1.out.size));have S2:=kp (Bk.on S1.out hb2);have T2:=kp (Bk.on T1.out hb2);have Z2:=kp (Nat.le_trans Z1.out hb2.size);clear hb2 s0 s1 s2 sf S1 T1 Z1;generalize checkE g=cg at *
 by_cases hg:cg=0
 ·have hg':(cg != 0)=false:=by simp [hg]
  have HG:=kp hg;clear hg;obtain ⟨t0,tf⟩:=Bk.c1 T2.out;go_wp2_with fail
  refine(HCt.out w2 B2.out).mono ?_;rintro e w3 ⟨rfl,hb3⟩;have B3:=kp (B2.out.trans (hb3.mono B2.out.size));have S3:=kp (Bk.on S2.out hb3);have T3:=kp (Bk.on T2.out hb3);have Z3:=kp (Nat.le_trans Z2.out hb3.size);clear hb3 t0 tf S2 T2 Z2;generalize checkTE t=ct at *
  by_cases hct:ct=0
  ·have hct':(ct != 0)=false:=by simp [hct]
   replace HE:=kp (HE.out.trans (if_neg (by rw [HG.out,hct];simp)));have HSt2:=kp (HSt.out hct);clear hct HSt;obtain ⟨t0,tf⟩:=Bk.c1 T3.out;go_wp2_with fail
   go_loopw [20] (fun i' wr=>∃ k:Nat,k<=t.length/\i'=.int .i64 k/\Below (w.heap.size+2) w3 wr/\∀ j n,j < k->t[j]?=some n->sortedN g t n=true) (fun i' _=>t.length - (intOf i').toNat)
   case atStart=>exact⟨0,Nat.zero_le _,rfl,Below.refl _ _,fun j n hj=>by omega⟩
   case round =>
    obtain ⟨k,hk,rfl,hb,hto⟩:=hrel;have HTo:=kp hto;have HB:=kp hb;have HBw:=kp (B3.out.trans (hb.mono (by omega)));have SR:=kp (Bk.on' S3.out hb (by omega));have TR:=kp (Bk.on' T3.out hb (by omega));clear hb t0 tf hto
    by_cases hlt:k < t.length
    ·have hlt2:(k:Int) < (t.length:Int):=by omega
     obtain ⟨n,hn2⟩:∃ n,t[k]?=some n:=⟨_,gqe hlt⟩;obtain ⟨b,o,hA,hxa,hxi⟩:=node_get (HT.out.on NodeR.lasts HBw.out) hn2;subst hA;have HX:=kp hxa;have HSn:=kp (HSt2.out k n hn2);have HI:=kp hxi
     have HTk:=kp (show sortedN g t n=true->∀ j m,j < k+1->t[j]?=some m->sortedN g t m=true from fun he j m hj hm=>by
      by_cases h:j < k
      ·exact HTo.out j m h hm
      ·obtain rfl:j=k:=by omega
       rw [hn2] at hm;cases hm;exact he)
     have HNk:=kp (fun hf=>HStop.out k n hn2 hf);obtain ⟨_,x0,x1,x2,x3,x4,x5,x6,x7⟩:=hxa;have NB:=kp (Bk.new wr (.cells #[.int .i8 n.op,.int .i8 n.len,.int .i64 n.a0,.int .i64 n.a1,.int .i64 n.a2,.int .i64 n.sort,.int .i64 n.fn,.int .i64 n.n] 166));have SB:=kp (Bk.keep SR.out (.cells #[.int .i8 n.op,.int .i8 n.len,.int .i64 n.a0,.int .i64 n.a1,.int .i64 n.a2,.int .i64 n.sort,.int .i64 n.fn,.int .i64 n.n] 166));have TB:=kp (Bk.keep TR.out (.cells #[.int .i8 n.op,.int .i8 n.len,.int .i64 n.a0,.int .i64 n.a1,.int .i64 n.a2,.int .i64 n.sort,.int .i64 n.fn,.int .i64 n.n] 166));have HBn:=kp (HB.out.alloc (by have:=Z3.out;have:=HB.out.size;omega) (.cells #[.int .i8 n.op,.int .i8 n.len,.int .i64 n.a0,.int .i64 n.a1,.int .i64 n.a2,.int .i64 n.sort,.int .i64 n.fn,.int .i64 n.n] 166));have BN:=kp (HBw.out.alloc HBw.out.size (.cells #[.int .i8 n.op,.int .i8 n.len,.int .i64 n.a0,.int .i64 n.a1,.int .i64 n.a2,.int .i64 n.sort,.int .i64 n.fn,.int .i64 n.n] 166));have HSn2:=kp (fun W hW=>HSo.out HG.out W hW n HI.out k HSn.out (by omega));unfold nodeV SortPost at HSn2;have HSd:=kp (show sortedN g t n=(decide ((sortProg g t n).2=0) && decide ((sortProg g t n).1=n.sort)) from rfl);clear hn2 hxi;generalize sortedN g t n=sn at *;generalize sortProg g t n=r at *;obtain ⟨r1,r2⟩:=r;obtain ⟨t0,tf⟩:=Bk.c1 TR.out;go_upto_region 6 with fail
     have hwn:wr.heap.size < (wr.alloc (.cells #[.int .i8 n.op,.int .i8 n.len,.int .i64 n.a0,.int .i64 n.a1,.int .i64 n.a2,.int .i64 n.sort,.int .i64 n.fn,.int .i64 n.n] 166)).heap.size:=by simp
     generalize wr.alloc (.cells #[.int .i8 n.op,.int .i8 n.len,.int .i64 n.a0,.int .i64 n.a1,.int .i64 n.a2,.int .i64 n.sort,.int .i64 n.fn,.int .i64 n.n] 166)=wn at *;clear x0 x1 x2 x3 x4 x5 x6 x7 t0 tf;obtain ⟨t0,tf⟩:=Bk.c1 TB.out;obtain ⟨s0,s1,s2,sf⟩:=Bk.c3 SB.out;obtain ⟨x0,x1,x2,x3,x4,x5,x6,x7,xf⟩:=Bk.c8 NB.out;go_wp2_with fail
     refine(HSn2.out wn BN.out).mono ?_;rintro e w6 ⟨rfl,hb6⟩;have B6:=kp (BN.out.trans (hb6.mono BN.out.size));have H6:=kp (HBn.out.trans (hb6.mono (by have:=Z3.out;have:=HBn.out.size;omega)));have N6:=kp (Bk.on NB.out hb6);clear hb6 t0 tf s0 s1 s2 sf x0 x1 x2 x3 x4 x5 x6 x7 xf;obtain ⟨x0,x1,x2,x3,x4,x5,x6,x7,xf⟩:=Bk.c8 N6.out
     by_cases hr2:r2=0
     ·have hr2':decide (r2=0)=true:=by simp [hr2]
      by_cases hr1:r1=n.sort
      ·have hr1':(r1 != n.sort)=false:=by simp [hr1]
       have HQ:=kp (HTk.out (by rw [HSd.out,hr2,hr1];simp));clear hr2 hr1;go_wp2_with fail
       go_roundw
       case rel=>exact⟨k+1,by omega,by go_num,H6.out,HQ.out⟩
       case measure=>simp [intOf];omega
      ·have hr1':(r1 != n.sort)=true:=by simp [hr1]
       have HQ:=kp (HNk.out (by rw [HSd.out];simp [hr1]));clear hr2 hr1;rw [HQ.out] at HE;go_wp2_with fail
       go_ret;exact⟨ret_int HE.out.symm,B6.out⟩
     ·have hr2':decide (r2=0)=false:=by simp [hr2]
      have HQ:=kp (HNk.out (by rw [HSd.out];simp [hr2]));clear hr2;rw [HQ.out] at HE;go_wp2_with fail
      go_ret;exact⟨ret_int HE.out.symm,B6.out⟩
    ·have hke:k=t.length:=by omega
     have HQ:=kp (show sb=true from HAll.out fun j n hj hn=>HTo.out j n (by omega) hn);rw [HQ.out] at HE;clear hke;go_wp2_with fail
     go_ret;exact⟨ret_int HE.out.symm,HBw.out⟩
  ·have hct':(ct != 0)=true:=by simp [hct]
   replace HE:=kp (HE.out.trans (if_pos (.inr hct)));clear hct;go_wp2_with fail
   go_ret;exact⟨ret_int HE.out.symm,B3.out⟩
 ·have hg':(cg != 0)=true:=by simp [hg]
  replace HE:=kp (HE.out.trans (if_pos (.inl hg)));clear hg;go_wp2_with fail
  go_ret;exact⟨ret_int HE.out.symm,B2.out⟩
end El
namespace Dr
open Go Go.RowKit Dt El Sg
theorem index_nil (f:Value) (w:World):Calls Tryz.prog 172 #[.slice none 0 0,f] w fun e w'=>e=.returned (.int .i64 (-1))/\w=w':=by
 go_enter Tryz.func172,Tryz.ntmps172
 go_wp2_with fail
 go_loopw [8] (fun i wr=>i=.int .i64 0/\w=wr) (fun _ _=>0)
 case atStart=>exact⟨rfl,rfl⟩
 case round =>
  obtain ⟨rfl,rfl⟩:=hrel;go_wp2_with fail
  go_ret;exact⟨rfl,rfl⟩
theorem contains_nil (f:Value) (w:World):Calls Tryz.prog 125 #[.slice none 0 0,f] w fun e w'=>e=.returned (.bool false)/\w=w':=by
 go_enter Tryz.func125,Tryz.ntmps125
 go_wp2_with fail
 refine(index_nil f w).mono ?_;rintro e w2 ⟨rfl,rfl⟩;go_wp2_with fail
 go_ret;exact⟨rfl,rfl⟩
theorem sig_nil (w:World):SigAt w none 0 none 0 none 0 ⟨[],[],[]⟩:=by
 constructor
 all_goals first | exact .inl rfl | exact nlq | (unfold maxLen;omega)
theorem table_new:tableE ⟨[],[],[]⟩ newT=0:=by kernel_rfl
theorem tab_lies {w:World} {g:Nat} (h:TabAt w g):Lies 8 NodeR w (some ⟨g,0,none⟩) newT:=new_lies h
theorem TabAt.on {w w':World} {g:Nat} (h:TabAt w g) (hb:Below w.heap.size w w'):TabAt w' g:=Bk.on h hb
theorem right_any {w:World} {base g c:Nat} {A:Option Addr} {us:List Unit} (ht:TabAt w g) (h:PRow valM 178 5 base w (.slice A us.length c) us) (hl:us.length<=8) :
  Calls Tryz.prog 82 #[drvV g (.slice A us.length c)] w fun e w'=>e=.returned (.bool true)/\Below w.heap.size w w':=by
 have X1:=kp (Bk.new w (.cells (drvL g (.slice A us.length c)).toArray 106));have B1:=kp ((brq w).alloc nlq (.cells (drvL g (.slice A us.length c)).toArray 106));have T1:=kp (Bk.keep ht (.cells (drvL g (.slice A us.length c)).toArray 106));have P1:=kp (h.below B1.out);have hmf:∀ (fn:Fn) (first cap:Array Value) (w:World),(Instr.makeFunc fn first cap).run Tryz.prog w=.ok (.func fn first cap) w:=fun _ _ _ _=>rfl;clear ht h;generalize hn:us.length=n at *;have HN:=kp hn;clear hn;unfold drvL at *;unfold drvV;have hl2:(n:Int)<=8:=by omega
 go_enter Tryz.func82,Tryz.ntmps82
 go_upto_region 1 with fail
 generalize w.alloc (.cells #[.slice none 0 0,.slice none 0 0,.slice none 0 0,.slice (some ⟨g,0,none⟩) 2 2,.slice none 0 0,.slice A n c,.bool false,.int .i64 4096,.slice none 0 0,.bool false,.int .i8 0,.bool false,.slice none 0 0,.slice none 0 0,.slice none 0 0] 106)=w1 at *;obtain ⟨⟨x0,x1,x2,x3,x4,x5,x6,x7⟩,⟨x8,x9,x10,x11,x12,x13,x14⟩,xf⟩:=Bk.c15 X1.out;go_wp2_with fail
 refine((tytable_any (sig_nil w1) (by decide) (by decide) (by decide) (tab_lies T1.out) (c:=2) (by decide) (by decide) (by unfold maxLen;decide)).mono (R':=fun e w'=>e=.returned (.int .i64 0)/\Below w1.heap.size w1 w') (fun e w' h=>⟨by rw [h.1,table_new],h.2⟩)).mono ?_;rintro e w2 ⟨rfl,hb2⟩;have X2:=kp (Bk.on X1.out hb2);have P2:=kp (P1.out.below hb2);have B2:=kp (B1.out.trans (hb2.mono B1.out.size));clear hb2 x0 x1 x2 x3 x4 x5 x6 x7 x8 x9 x10 x11 x12 x13 x14 xf;obtain ⟨⟨x0,x1,x2,x3,x4,x5,x6,x7⟩,⟨x8,x9,x10,x11,x12,x13,x14⟩,xf⟩:=Bk.c15 X2.out;have X3:=kp (Bk.keep X2.out (.cells #[.int .i64 0,.int .i64 0,.int .i64 0,.int .i64 2,.int .i64 0] 178));have L3:=kp (Bk.new w2 (.cells #[.int .i64 0,.int .i64 0,.int .i64 0,.int .i64 2,.int .i64 0] 178));have B3:=kp (B2.out.alloc B2.out.size (.cells #[.int .i64 0,.int .i64 0,.int .i64 0,.int .i64 2,.int .i64 0] 178));have P3:=kp (P2.out.below ((Below.refl _ w2).alloc nlq (.cells #[.int .i64 0,.int .i64 0,.int .i64 0,.int .i64 2,.int .i64 0] 178)));have hz2:=lt_of_block X2.out;go_upto_region 4 with fail
 generalize w2.alloc (.cells #[.int .i64 0,.int .i64 0,.int .i64 0,.int .i64 2,.int .i64 0] 178)=w3 at *;generalize w2.heap.size=lb at *;clear x0 x1 x2 x3 x4 x5 x6 x7 x8 x9 x10 x11 x12 x13 x14 xf;obtain ⟨⟨x0,x1,x2,x3,x4,x5,x6,x7⟩,⟨x8,x9,x10,x11,x12,x13,x14⟩,xf⟩:=Bk.c15 X3.out;go_wp2_with fail
 have HCl:=kp (clone_marks (A:=A) (c:=c) (us:=us) (by rw [HN.out];exact P3.out) (by rw [HN.out];omega));rw [HN.out] at HCl;refine HCl.out.mono ?_;rintro e w4 ⟨A4,c4,rfl,hp4,hb4⟩;have P4:=kp hp4;have X4:=kp (Bk.on X3.out hb4);have L4:=kp (Bk.on L3.out hb4);have B4:=kp (B3.out.trans (hb4.mono B3.out.size));have hz4:=hb4.size;have hlb:=lt_of_block L3.out;clear hp4 hb4 HCl x0 x1 x2 x3 x4 x5 x6 x7 x8 x9 x10 x11 x12 x13 x14 xf;obtain ⟨⟨x0,x1,x2,x3,x4,x5,x6,x7⟩,⟨x8,x9,x10,x11,x12,x13,x14⟩,xf⟩:=Bk.c15 X4.out;go_wp2_with fail
 refine(mark_any w4 w.heap.size none none none (some ⟨g,0,none⟩) none 0 0 0 2 0 0 0 0 2 0 x0 x1 x2 x3 x4 (lt_of_block X4.out)).mono ?_;rintro e w5 ⟨rfl,hb5⟩;have P6:=kp ((P4.out.below hb5).below ((brq w5).alloc nlq (.cells #[.int .i64 0,.int .i64 0,.int .i64 0,.int .i64 2,.int .i64 0] 178)));have N6:=kp (Bk.new w5 (.cells #[.int .i64 0,.int .i64 0,.int .i64 0,.int .i64 2,.int .i64 0] 178));have X6:=kp (Bk.keep (Bk.on X4.out hb5) (.cells #[.int .i64 0,.int .i64 0,.int .i64 0,.int .i64 2,.int .i64 0] 178));have L6:=kp (Bk.keep (Bk.on L4.out hb5) (.cells #[.int .i64 0,.int .i64 0,.int .i64 0,.int .i64 2,.int .i64 0] 178));have B6:=kp ((B4.out.trans (hb5.mono B4.out.size)).alloc (by have:=hb5.size;have:=B4.out.size;omega) (.cells #[.int .i64 0,.int .i64 0,.int .i64 0,.int .i64 2,.int .i64 0] 178));have hz6:w3.heap.size<=(w5.alloc (.cells #[.int .i64 0,.int .i64 0,.int .i64 0,.int .i64 2,.int .i64 0] 178)).heap.size:=by have:=hb5.size;simp;omega
 have hnl:n < 100000000000:=by omega
 clear hb5 x0 x1 x2 x3 x4 x5 x6 x7 x8 x9 x10 x11 x12 x13 x14 xf;unfold mkV
 go_wp2_with (at_builtin;refine push_row tyM valM_len valM_one (u:=()) rfl (.tmp 22) (.tmp 24) rfl HN.out rfl P6.out rfl N6.out hnl hz6 ?_)
 intro A7 c7 w7 hp7 hg7;have X7:=kp ((hg7.block _ (lt_of_block X6.out) (fun e=>by have:=P6.out.lt _ e.symm;omega)).trans X6.out);have L7:=kp ((hg7.block _ (lt_of_block L6.out) (fun e=>by have:=P6.out.lt _ e.symm;omega)).trans L6.out);have B7:=kp (B6.out.grown hg7 (by have:=B6.out.size;omega) (fun j e=>by have:=(P6.out.lt _ e).1;have:=B3.out.size;omega));have P7:=kp hp7;have HN7:=kp (show(us ++ [()]).length=n+1 by rw [List.length_append,HN.out];rfl);clear hp7 hg7;generalize us ++ [()]=vs at *;go_wp2_with fail
 go_loopw [27] (fun i wr=>∃ m:Nat,m<=n+1/\i=.int .i64 m/\wr.heap[w.heap.size]?=some (.cells #[.slice none 0 0,.slice none 0 0,.slice none 0 0,.slice (some ⟨g,0,none⟩) 2 2,.slice none 0 0,.slice A n c,.bool false,.int .i64 4096,.slice none 0 0,.bool false,.int .i8 0,.bool false,.slice none 0 0,.slice none 0 0,.slice none 0 0] 106 (0,0))/\wr.heap[lb]?=some (.cells #[.int .i64 0,.int .i64 0,.int .i64 0,.int .i64 2,.int .i64 0] 178 (0,0))/\PRow valM 178 5 w3.heap.size wr (.slice A7 (n+1) c7) vs/\Below w.heap.size w wr) (fun i _=>n+1 - (intOf i).toNat)
 case atStart=>exact⟨0,by omega,rfl,X7.out,L7.out,P7.out,B7.out⟩
 case round =>
  obtain ⟨m,hm,rfl,hx,hl,hp,hb⟩:=hrel;have X8:=kp hx;have L8:=kp hl;have P8:=kp hp;have B8:=kp hb;clear hx hl hp hb
  by_cases hmn:m < n+1
  ·have hmi:(m:Int) < (n:Int)+1:=by omega
   obtain ⟨q,rfl,hq,hql,hcell⟩:=P8.out.cell valM_len (by rw [HN7.out];omega);have hvm:vs[m]?=some ():=by rw [gqe (by rw [HN7.out];exact hmn)]
   have y0:wr.cell? ⟨q,m * 5,none⟩=some (.int .i64 0):=(hcell m () hvm 0 _ rfl).1;have y1:=(hcell m () hvm 1 _ rfl).1;have y2:=(hcell m () hvm 2 _ rfl).1;have y3:=(hcell m () hvm 3 _ rfl).1;have y4:=(hcell m () hvm 4 _ rfl).1;clear hcell;have X9:=kp (Bk.keep X8.out (.cells #[.int .i64 0,.int .i64 0,.int .i64 0,.int .i64 2,.int .i64 0] 178));have L9:=kp (Bk.keep L8.out (.cells #[.int .i64 0,.int .i64 0,.int .i64 0,.int .i64 2,.int .i64 0] 178));have N9:=kp (Bk.new wr (.cells #[.int .i64 0,.int .i64 0,.int .i64 0,.int .i64 2,.int .i64 0] 178));have B9:=kp (B8.out.alloc B8.out.size (.cells #[.int .i64 0,.int .i64 0,.int .i64 0,.int .i64 2,.int .i64 0] 178));have P9:=kp (P8.out.below ((brq wr).alloc nlq (.cells #[.int .i64 0,.int .i64 0,.int .i64 0,.int .i64 2,.int .i64 0] 178)));have HRi:=kp (fun W=>rises_yes W 0 0 0 2 0 0 0 0 2 0 (by decide) (by decide) (by decide) (by decide) (by decide));unfold mkV at HRi;go_upto_region 7 with fail
   generalize wr.alloc (.cells #[.int .i64 0,.int .i64 0,.int .i64 0,.int .i64 2,.int .i64 0] 178)=wa at *;generalize wr.heap.size=eb at *;clear y0 y1 y2 y3 y4;obtain ⟨y0,y1,y2,y3,y4,yf⟩:=Bk.c5 N9.out;obtain ⟨z0,z1,z2,z3,z4,zf⟩:=Bk.c5 L9.out;go_wp2_with fail
   refine(HRi.out wa).mono ?_;rintro e w9 ⟨rfl,hb9⟩;have X10:=kp (Bk.on X9.out hb9);have L10:=kp (Bk.on L9.out hb9);have N10:=kp (Bk.on N9.out hb9);have P10:=kp (P9.out.below hb9);have B10:=kp (B9.out.trans (hb9.mono B9.out.size));clear hb9 y0 y1 y2 y3 y4 yf z0 z1 z2 z3 z4 zf;obtain ⟨y0,y1,y2,y3,y4,yf⟩:=Bk.c5 N10.out;obtain ⟨z0,z1,z2,z3,z4,zf⟩:=Bk.c5 L10.out;have hlw:w.heap.size<=lb:=by omega
   have hlx:w.heap.size≠lb:=by omega
   go_wp2_with fail
   have L11:=kp (set5_at L10.out (.int .i64 0) (.int .i64 0) (.int .i64 0) (.int .i64 2) (.int .i64 0));have B11:=kp (set5_below B10.out hlw (.int .i64 0) (.int .i64 0) (.int .i64 0) (.int .i64 2) (.int .i64 0));have X11:=kp ((set5_other (w:=w9) hlx (.int .i64 0) (.int .i64 0) (.int .i64 0) (.int .i64 2) (.int .i64 0)).trans X10.out);have P11:=kp (show PRow valM 178 5 w3.heap.size (set5 w9 lb (.int .i64 0) (.int .i64 0) (.int .i64 0) (.int .i64 2) (.int .i64 0)) _ vs from P10.out.same (fun b h1 _=>set5_other (by omega) _ _ _ _ _));go_roundw
   case rel=>exact⟨m+1,by omega,by go_num,X11.out,L11.out,P11.out,B11.out⟩
   case measure=>simp [intOf];omega
  ·obtain rfl:m=n+1:=by omega
   obtain ⟨⟨x0,x1,x2,x3,x4,x5,x6,x7⟩,⟨x8,x9,x10,x11,x12,x13,x14⟩,xf⟩:=Bk.c15 X8.out;have HCn:=kp (fun f W=>contains_nil f W)
   go_wp2_with (go_at_call 125;refine(HCn.out _ _).mono ?_;rintro e w9 ⟨rfl,rfl⟩)
   go_ret;exact⟨rfl,B8.out⟩
def wrkL (g:Nat) (mk:Value) (cb:Nat) (out:Value) (over:Bool):List Value:=[.slice none 0 0,.slice none 0 0,.slice none 0 0,.slice (some ⟨g,0,none⟩) 2 2,.slice none 0 0,mk,.bool false,.int .i64 4096,.slice none 0 0,.bool false,.int .i8 0,.bool false,.slice none 0 0,.slice none 0 0,.slice none 0 0,.pointer (some ⟨cb,0,none⟩),out,.bool over]
def cmdL (k n:Int) (a3 a4 a5 a7:Value):List Value:=[.int .i8 k,.string { data:=#[] },.int .i64 n,a3,a4,a5,.string { data:=#[] },a7]
theorem wrk_set (g:Nat) (mk mk':Value) (cb:Nat) (out:Value) (over:Bool):(wrkL g mk cb out over).toArray.setIfInBounds 5 mk'=(wrkL g mk' cb out over).toArray:=rfl
def idleW (w:World) (wb:Nat):World:=(((((w.setCell ⟨wb,9,none⟩ (.bool false)).setCell ⟨wb,10,none⟩ (.int .i8 0)).setCell ⟨wb,11,none⟩ (.bool false)).setCell ⟨wb,12,none⟩ (.slice none 0 0)).setCell ⟨wb,13,none⟩ (.slice none 0 0)).setCell ⟨wb,14,none⟩ (.slice none 0 0)
theorem wrk_idle {w:World} {g wb cb:Nat} {mk out:Value} {over:Bool} (h:w.heap[wb]?=some (.cells (wrkL g mk cb out over).toArray 143 (0,0))):(idleW w wb).heap[wb]?=some (.cells (wrkL g mk cb out over).toArray 143 (0,0)):=by
 have h1:(w.setCell ⟨wb,9,none⟩ (.bool false)).heap[wb]?=some (.cells (wrkL g mk cb out over).toArray 143 (0,0)):=Bk.set_at h 9 (.bool false);have h2:((w.setCell ⟨wb,9,none⟩ (.bool false)).setCell ⟨wb,10,none⟩ (.int .i8 0)).heap[wb]?=some (.cells (wrkL g mk cb out over).toArray 143 (0,0)):=Bk.set_at h1 10 (.int .i8 0);have h3:(((w.setCell ⟨wb,9,none⟩ (.bool false)).setCell ⟨wb,10,none⟩ (.int .i8 0)).setCell ⟨wb,11,none⟩ (.bool false)).heap[wb]?=some (.cells (wrkL g mk cb out over).toArray 143 (0,0)):=Bk.set_at h2 11 (.bool false);have h4:((((w.setCell ⟨wb,9,none⟩ (.bool false)).setCell ⟨wb,10,none⟩ (.int .i8 0)).setCell ⟨wb,11,none⟩ (.bool false)).setCell ⟨wb,12,none⟩ (.slice none 0 0)).heap[wb]?=some (.cells (wrkL g mk cb out over).toArray 143 (0,0)):=Bk.set_at h3 12 (.slice none 0 0);have h5:(((((w.setCell ⟨wb,9,none⟩ (.bool false)).setCell ⟨wb,10,none⟩ (.int .i8 0)).setCell ⟨wb,11,none⟩ (.bool false)).setCell ⟨wb,12,none⟩ (.slice none 0 0)).setCell ⟨wb,13,none⟩ (.slice none 0 0)).heap[wb]?=some (.cells (wrkL g mk cb out over).toArray 143 (0,0)):=Bk.set_at h4 13 (.slice none 0 0);exact Bk.set_at h5 14 (.slice none 0 0)
theorem idleW_other {w:World} {wb c:Nat} (h:c≠wb):(idleW w wb).heap[c]?=w.heap[c]?:=by
 unfold idleW;rw [Below.heap_setCell _ ⟨wb,14,none⟩ _ c h,Below.heap_setCell _ ⟨wb,13,none⟩ _ c h,Below.heap_setCell _ ⟨wb,12,none⟩ _ c h,Below.heap_setCell _ ⟨wb,11,none⟩ _ c h,Below.heap_setCell _ ⟨wb,10,none⟩ _ c h,Below.heap_setCell _ ⟨wb,9,none⟩ _ c h]
theorem idleW_below {B wb:Nat} {w0 w:World} (h:Below B w0 w) (hb:B<=wb):Below B w0 (idleW w wb) :=
 (((((h.setCell (p:=⟨wb,9,none⟩) hb _).setCell (p:=⟨wb,10,none⟩) hb _).setCell (p:=⟨wb,11,none⟩) hb _).setCell (p:=⟨wb,12,none⟩) hb _).setCell (p:=⟨wb,13,none⟩) hb _).setCell (p:=⟨wb,14,none⟩) hb _
theorem idleW_size (w:World) (wb:Nat):w.heap.size<=(idleW w wb).heap.size:=by simp [idleW,World.setCell]
theorem wrk_out {w:World} {g wb cb:Nat} {mk out:Value} {over:Bool} (h:w.heap[wb]?=some (.cells (wrkL g mk cb out over).toArray 143 (0,0))) (r:Value):(w.setCell ⟨wb,16,none⟩ r).heap[wb]?=some (.cells (wrkL g mk cb r over).toArray 143 (0,0)):=Bk.set_at h 16 r
theorem push_any {w:World} {base g c wb cb:Nat} {A:Option Addr} {us:List Unit} {k:Int} {a3 a4 a5 a7 out:Value} {over:Bool} (hw:w.heap[wb]?=some (.cells (wrkL g (.slice A us.length c) cb out over).toArray 143 (0,0))) (hc:w.heap[cb]?=some (.cells (cmdL k 1 a3 a4 a5 a7).toArray 110 (0,0))) (h:PRow valM 178 5 base w (.slice A us.length c) us) (hl:us.length<=7) :
  Calls Tryz.prog 90 #[.pointer (some ⟨wb,0,none⟩)] w fun e w'=>∃ A' c',e=.returned (.int .i64 0)/\w'.heap[wb]?=some (.cells (wrkL g (.slice A' (us.length+1) c') cb out over).toArray 143 (0,0))/\PRow valM 178 5 w.heap.size w' (.slice A' (us.length+1) c') (us ++ [()])/\Keeps (fun b=>b=wb) w w':=by
 have XW:=kp hw;have XC:=kp hc;have HP:=kp h;generalize hn:us.length=n at *;have HN:=kp hn;have hl2:(n:Int)<=7:=by omega
 clear hn hw hc h
 go_enter Tryz.func90,Tryz.ntmps90
 go_upto_region 1 with fail
 have XW1:=XW.out;have XC1:=XC.out;unfold wrkL at XW1;unfold cmdL at XC1;obtain ⟨⟨x0,x1,x2,x3,x4,x5,x6,x7⟩,⟨x8,x9,x10,x11,x12,x13,x14⟩,⟨x15,x16,x17⟩,xf⟩:=Bk.c18 XW1;obtain ⟨y0,y1,y2,y3,y4,y5,y6,y7,yf⟩:=Bk.c8 XC1;clear XW1 XC1
 go_quiet (fail)
 have hno:decide ((8:Int) < (n:Int)+1)=false:=dfq (by omega);clear x0 x1 x2 x3 x4 x5 x6 x7 x8 x9 x10 x11 x12 x13 x14 x15 x16 x17 xf y0 y1 y2 y3 y4 y5 y6 y7 yf;go_upto_region 3 with fail
 have BD:=kp ((brq w).trans (show Below w.heap.size w (w.drewN nq) from⟨rfl,rfl,rfl,nlq,fun _ _=>rfl⟩));generalize w.drewN nq=w1 at *;refine wp_region_hd (S:=fun V=>Below w.heap.size w V) (by kernel_rfl) 24 (BD.out.drew) (fun hHeld=>?_);have BD1:=kp BD.out.drew;generalize w1.drew=w2 at *;refine hl1 [0,1,2,3,4,5,7,8,9,12,13,14,15,16,17,18] ?_;iterate 16 (refine hwt (v:=?_) ?_ ?_;rotate_left;(focus (intro w hSw;(have XV:=Bk.on XW.out hSw;have XD:=Bk.on XC.out hSw;unfold wrkL at XV;unfold cmdL at XD;obtain ⟨⟨x0,x1,x2,x3,x4,x5,x6,x7⟩,⟨x8,x9,x10,x11,x12,x13,x14⟩,⟨x15,x16,x17⟩,xf⟩:=Bk.c18 XV;obtain ⟨y0,y1,y2,y3,y4,y5,y6,y7,yf⟩:=Bk.c8 XD;go_simp;try with_reducible rfl)));try simp only [pt])
 refine hl0 ?_;have hz2:=BD1.out.size;have HCl:=kp (clone_marks (w:=w2) (A:=A) (c:=c) (us:=us) (by rw [HN.out];exact HP.out.below BD1.out) (by rw [HN.out];omega));rw [HN.out] at HCl;refine wpHd_step (i:=6) (o:=Oper.mk _ _ _ _ _ _) (by kernel_rfl) rfl (fun K hK=>?_);go_simp
 go_wp2_with (go_at_call 121;refine HCl.out.mono ?_;rintro e w4 ⟨A4,c4,rfl,hp4,hb4⟩;have P4:=kp hp4;have B4:=kp (BD1.out.trans (hb4.mono hz2));have hz4:=hb4.size;clear hp4 hb4)
 refine hK.out _ _ (B4.out) (fun hHeld=>?_);clear hK K;try simp only [pt]
 have hwl:=lt_of_block XW.out;have X4:=Bk.on XW.out B4.out;unfold wrkL at X4;obtain ⟨⟨x0,x1,x2,x3,x4,x5,x6,x7⟩,⟨x8,x9,x10,x11,x12,x13,x14⟩,⟨x15,x16,x17⟩,xf⟩:=Bk.c18 X4;have HMk:=kp (mark_any w4 wb none none none (some ⟨g,0,none⟩) none 0 0 0 2 0 0 0 0 2 0 x0 x1 x2 x3 x4 (lt_of_block X4));clear X4 x0 x1 x2 x3 x4 x5 x6 x7 x8 x9 x10 x11 x12 x13 x14 x15 x16 x17 xf;refine wpHd_step (i:=10) (o:=Oper.mk _ _ _ _ _ _) (by kernel_rfl) rfl (fun K hK=>?_);go_simp
 go_wp2_with (go_at_call 122;refine HMk.out.mono ?_;rintro e w5 ⟨rfl,hb5⟩;have P5:=kp (P4.out.below hb5);have B5:=kp (B4.out.trans (hb5.mono B4.out.size));have hz5:=hb5.size;clear hb5)
 refine hK.out _ _ (B5.out) (fun hHeld=>?_);clear hK K;try simp only [pt]
 unfold mkV;have hz5':=B5.out.size;have B6:=kp (B5.out.alloc hz5' (.cells #[.int .i64 0,.int .i64 0,.int .i64 0,.int .i64 2,.int .i64 0] 178));have N6:=kp (Bk.new w5 (.cells #[.int .i64 0,.int .i64 0,.int .i64 0,.int .i64 2,.int .i64 0] 178));have P6:=kp (P5.out.below ((brq w5).alloc nlq (.cells #[.int .i64 0,.int .i64 0,.int .i64 0,.int .i64 2,.int .i64 0] 178)));have hz6:w5.heap.size<=(w5.alloc (.cells #[.int .i64 0,.int .i64 0,.int .i64 0,.int .i64 2,.int .i64 0] 178)).heap.size:=by simp
 refine wpHd_step (i:=11) (o:=Oper.mk _ _ _ _ _ _) (by kernel_rfl) rfl (fun K hK=>?_);go_simp;refine hK.out _ _ (B6.out) (fun hHeld=>?_);clear hK K;try simp only [pt]
 generalize w5.alloc (.cells #[.int .i64 0,.int .i64 0,.int .i64 0,.int .i64 2,.int .i64 0] 178)=w6 at *;have HRp:=kp (repeat_one (g:=w5.heap.size) N6.out 1);refine wpHd_step (i:=19) (o:=Oper.mk _ _ _ _ _ _) (by kernel_rfl) rfl (fun K hK=>?_);go_simp
 go_wp2_with (go_at_call 138;refine HRp.out.mono ?_;rintro e w7 ⟨rb,rfl,hrb,hrat,hb7⟩;have P7:=kp (P6.out.below hb7);have R7:=kp hrat;have B7:=kp (B6.out.trans (hb7.mono B6.out.size));have hz76:=hb7.size;clear hb7 hrat)
 refine hK.out _ _ (B7.out) (fun hHeld=>?_);clear hK K;try simp only [pt]
 have hnl:n < 100000000000:=by omega
 have hz7:=B7.out.size;have hz67:w2.heap.size<=w7.heap.size:=by omega
 refine wpHd_step (i:=20) (o:=Oper.mk _ _ _ _ _ _) (by kernel_rfl) rfl (fun K hK=>?_);refine push_rstep tyM valM_len valM_one (u:=()) rfl (.tmp 24) (.tmp 37) rfl HN.out rfl P7.out rfl R7.out hnl hz67 ?_;rintro A8 c8 w8 hp8 hg8;have B8:=kp (B7.out.grown hg8 hz7 (fun j e=>Nat.le_trans hz2 (P7.out.lt _ e).1));have P8:=kp hp8;clear hp8 hg8;refine hK.out _ _ (B8.out) (fun hHeld=>?_);clear hK K;try simp only [pt]
 refine hl1 [21,22,23] ?_;iterate 3 (refine hwt (v:=?_) ?_ ?_;rotate_left;(focus (intro w hSw;(have XV:=Bk.on XW.out hSw;have XD:=Bk.on XC.out hSw;unfold wrkL at XV;unfold cmdL at XD;obtain ⟨⟨x0,x1,x2,x3,x4,x5,x6,x7⟩,⟨x8,x9,x10,x11,x12,x13,x14⟩,⟨x15,x16,x17⟩,xf⟩:=Bk.c18 XV;obtain ⟨y0,y1,y2,y3,y4,y5,y6,y7,yf⟩:=Bk.c8 XD;go_simp;try with_reducible rfl)));try simp only [pt])
 refine hl0 ?_;have X8:=Bk.on XW.out B8.out;unfold wrkL at X8;obtain ⟨⟨x0,x1,x2,x3,x4,x5,x6,x7⟩,⟨x8,x9,x10,x11,x12,x13,x14⟩,⟨x15,x16,x17⟩,xf⟩:=Bk.c18 X8;refine wpHd_last (i:=24) (o:=Oper.mk _ _ _ _ _ _) (by kernel_rfl) rfl (by kernel_rfl) (fun K hK=>?_);go_simp;refine hK.out _ _ ?_;clear hK K;try simp only [pt]
 refine wpHd_done (by kernel_rfl) ?_ _;clear X8 x0 x1 x2 x3 x4 x5 x6 x7 x8 x9 x10 x11 x12 x13 x14 x15 x16 x17 xf;go_wp2_with fail
 go_ret;have X9:=Bk.set_at (Bk.on XW.out B8.out) 5 (.slice A8 (n+1) c8);rw [wrk_set] at X9;refine⟨A8,c8,rfl,X9,(P8.out.mono hz2).same (SameIn.setCell _ _ _ _ _ (Or.inl hwl)),?_⟩;exact(Keeps.of_below B8.out (fun b=>b=wb)).setCell (Or.inl rfl) _
theorem pop_few {w:World} {g c wb cb n:Nat} {A:Option Addr} {k m:Int} {a3 a4 a5 a7 out:Value} {over:Bool} (hw:w.heap[wb]?=some (.cells (wrkL g (.slice A n c) cb out over).toArray 143 (0,0))) (hc:w.heap[cb]?=some (.cells (cmdL k m a3 a4 a5 a7).toArray 110 (0,0))) (hl:n<=8) (hm:(n:Int) < m) (hm2:m<=1000) :
  Calls Tryz.prog 91 #[.pointer (some ⟨wb,0,none⟩)] w fun e w'=>e=.returned (.int .i64 50)/\Below w.heap.size w w':=by
 unfold wrkL at hw;unfold cmdL at hc;obtain ⟨⟨x0,x1,x2,x3,x4,x5,x6,x7⟩,⟨x8,x9,x10,x11,x12,x13,x14⟩,⟨x15,x16,x17⟩,xf⟩:=Bk.c18 hw;obtain ⟨y0,y1,y2,y3,y4,y5,y6,y7,yf⟩:=Bk.c8 hc;have hl2:(n:Int)<=8:=by omega
 have hneg:(n:Int) - m < 0:=by omega
 have hw1:IntKind.i64.wrap ((n:Int) - m)=(n:Int) - m:=IntWalk.i64_in _ (by omega);clear hw hc
 go_enter Tryz.func91,Tryz.ntmps91
 go_upto_region 1 with fail
 go_quiet (fail)
 go_wp2_with fail
 go_ret;exact⟨rfl,below_drewN (Below.refl _ _) _⟩
end Dr
end Go.Proofs.YtmcbolkpbklfeaaGreatDoor
