import Derived.Test.YtmcbolkpbklfeaaGreatDoorShort
import Derived.Test.YtmcbolkpbklfeaaGreatDoorMw
import Derived.Test.YtmcbolkpbklfeaaGreatDoorMx
/- merged by wip/merge.py from: TmCheck -/
set_option maxRecDepth 100000
set_option maxHeartbeats 51200000
namespace Go.Proofs.YtmcbolkpbklfeaaGreatDoor
namespace El
open Go.RowKit Go.Maps Dt Sg
def checkTE (t:List Node):Int:=if checkT t then 0 else 2
theorem standsTo_succ {t:List Node} {k:Nat} {n:Node} (h:t[k]?=some n):standsTo t (k+1)=(standsTo t k && standsN n k):=by
 unfold standsTo;rw [List.range_succ,List.all_append];simp [h]
theorem standsTo_stop {t:List Node} {k:Nat} {n:Node} (h:t[k]?=some n) (hs:standsN n k=false):standsTo t t.length=false:=by
 unfold standsTo;rw [List.all_eq_false];exact⟨k,List.mem_range.2 (gqs h).1,by rw [h];simp [hs]⟩
theorem tcheck_any {w:World} {A:Option Addr} {c:Nat} {t:List Node} (h:Lies 8 NodeR w A t) (hl:t.length<=1000000) (hc:t.length<=c) (hcm:c<=maxLen) :
  Calls Tryz.prog 170 #[.agg #[.slice A t.length c]] w fun e w'=>e=.returned (.int .i64 (checkTE t))/\Below w.heap.size w w':=by
 have HC:=kp (show checkTE t=if(decide (t.take 2=newT) && standsTo t t.length && decide t.Nodup) then 0 else 2 from rfl);have HL:=kp h;have TB:=kp (Bk.new w (.cells #[.slice A t.length c] 96));have B1:=kp ((brq w).alloc nlq (.cells #[.slice A t.length c] 96));unfold maxLen at hcm;clear h;generalize checkTE t=ce at *
 go_enter Tryz.func170,Tryz.ntmps170
 go_upto_region 1 with fail
 generalize w.alloc (.cells #[.slice A t.length c] 96)=w1 at *;have B0:=kp (brq w1).drew
 by_cases h2:t.length < 2
 ·have h2':(t.length:Int) < 2:=by omega
  have HR:=kp (show ce=2 by
   rw [HC.out];have:¬ t.take 2=newT:=fun e=>by have:=congrArg List.length e;rw [List.length_take] at this;simp [newT] at this;omega
   rw [dfq this];rfl)
  go_wp2_with fail
  refine wp_region_held_drew (S:=fun W=>W.heap[w.heap.size]?=some (.cells #[.slice A t.length c] 96 (0,0))) (by kernel_rfl) (TB.out) (fun hHeld=>?_);refine plz [0,1,2,3,4] ?_;iterate 5 (refine tnz (v:=?_) ?_ ?_;rotate_left;(focus first | ((intro w hSw;go_simp;try with_reducible rfl);done) | ((intro w hSw;(obtain ⟨h0,hf⟩:=Bk.c1 hSw;go_simp;try with_reducible rfl));done));try simp only [pt])
  refine pzz ?_;refine sk 5 ?_;try simp only [pt]
  refine sk 6 ?_;try simp only [pt]
  refine sk 7 ?_;try simp only [pt]
  refine sk 8 ?_;try simp only [pt]
  refine sk 9 ?_;try simp only [pt]
  refine sk 10 ?_;try simp only [pt]
  refine sk 11 ?_;try simp only [pt]
  refine tk 12 (v:=?_) ?_ ?_;rotate_left
  ·(intro w hSw;go_simp;try with_reducible rfl)
  try simp only [pt]
  refine dnz ?_;clear hHeld;go_wp2_with fail
  go_ret;exact⟨ret_int HR.out.symm,B1.out.trans (B0.out.mono B1.out.size)⟩
 ·have h2':decide ((t.length:Int) < 2)=false:=dfq (by omega);have h2n:2<=t.length:=by omega
  have h2c:(2:Int)<=(c:Int):=by omega
  obtain ⟨b,o,rfl,hat0,_⟩:=node_get HL.out (gqe (show 0 < t.length by omega));clear hat0;go_wp2_with fail
  refine wp_region_held_drew (S:=fun W=>Below w1.heap.size w1 W) (by kernel_rfl) (B0.out) (fun hHeld=>?_);refine plz [0,1,2,3,4,5,6,7] ?_;iterate 8 (refine tnz (v:=?_) ?_ ?_;rotate_left;(focus first | ((intro w hSw;go_simp;try with_reducible rfl);done) | ((intro w hSw;(obtain ⟨h0,hf⟩:=Bk.c1 (Bk.on TB.out hSw);go_simp;try with_reducible rfl));done));try simp only [pt])
  refine pzz ?_;refine rd 8 fun K hK=>?_;go_simp
  go_wp2_with (go_at_call 69;refine(tnew_any _).mono ?_;rintro e W1 ⟨g,rfl,hg,hgb,hb⟩;have B2:=kp (B0.out.trans (hb.mono B0.out.size));have NB:=kp hgb;clear hb hg hgb)
  refine hK.out _ _ (B2.out) (fun hHeld=>?_);clear hK K;try simp only [pt]
  have hfield:∀ W,(Instr.field 96 (.agg #[.slice (some ⟨g,0,none⟩) 2 2]) 0).run Tryz.prog W=.ok (.slice (some ⟨g,0,none⟩) 2 2) W:=fun W=>by kernel_rfl
  refine tk 9 (v:=?_) ?_ ?_;rotate_left
  ·(intro w hSw;go_simp;try with_reducible rfl)
  try simp only [pt]
  clear hfield;have HE:=kp (eqNodes_any (A:=some ⟨b,o,none⟩) (B:=some ⟨g,0,none⟩) (xs:=t.take 2) (ys:=newT) c 2 ((HL.out.on NodeR.lasts (B1.out.trans (B2.out.mono B1.out.size))).take 2) (new_lies NB.out) (by rw [List.length_take];omega));rw [show(t.take 2).length=2 by rw [List.length_take];omega,show newT.length=2 from rfl] at HE;refine rd 10 fun K hK=>?_;go_simp
  go_wp2_with (go_at_call 233;refine HE.out.mono ?_;rintro e W2 ⟨rfl,hb⟩;have B3:=kp (B2.out.trans (hb.mono B2.out.size));clear hb)
  refine hK.out _ _ (B3.out) (fun hHeld=>?_);clear hK K;try simp only [pt]
  cases hq:decide (t.take 2=newT) with
  | false =>
   have HR:=kp (show ce=2 by rw [HC.out,hq];rfl);refine plz [11,12] ?_;iterate 2 (refine tnz (v:=?_) ?_ ?_;rotate_left;(focus (intro w hSw;go_simp;try with_reducible rfl));try simp only [pt])
   refine pzz ?_;refine dnz ?_;clear hHeld;go_wp2_with fail
   go_ret;exact⟨ret_int HR.out.symm,B1.out.trans (B3.out.mono B1.out.size)⟩
  | true =>
   replace HC:=kp (show ce=if(standsTo t t.length && decide t.Nodup) then 0 else 2 by rw [HC.out,hq];rfl);refine plz [11,12] ?_;iterate 2 (refine tnz (v:=?_) ?_ ?_;rotate_left;(focus (intro w hSw;go_simp;try with_reducible rfl));try simp only [pt])
   refine pzz ?_;refine dnz ?_;clear hHeld hq HE NB;have BW:=kp (B1.out.trans (B3.out.mono B1.out.size));have TW:=kp (Bk.on TB.out B3.out);obtain ⟨q0,qf⟩:=Bk.c1 TW.out;go_wp2_with fail
   clear q0 qf
   go_loopw [22] (fun v wr=>∃ k:Nat,k<=t.length/\v=.int .i64 k/\standsTo t k=true/\Below W2.heap.size W2 wr) (fun v _=>t.length - (intOf v).toNat)
   case atStart=>exact⟨0,Nat.zero_le _,rfl,rfl,Below.refl _ _⟩
   case round =>
    obtain ⟨k,hk,rfl,hto,hb⟩:=hrel;have HTo:=kp hto;have HB:=kp hb;have HBW:=kp (BW.out.trans (hb.mono BW.out.size));have TBr:=kp (Bk.on TW.out hb);clear hto hb;obtain ⟨q0,qf⟩:=Bk.c1 TBr.out
    by_cases hlt:k < t.length
    ·have hlt2:(k:Int) < (t.length:Int):=by omega
     obtain ⟨n,hn⟩:∃ n,t[k]?=some n:=⟨_,gqe hlt⟩;obtain ⟨b',o',hA,hat,hi⟩:=node_get (HL.out.on NodeR.lasts HBW.out) hn;obtain ⟨rfl,rfl⟩:=aiq hA;have HS:=kp (stands_any hat hi (k:Int));have HSu:=kp (standsTo_succ hn);have HSt:=kp (fun hs=>standsTo_stop hn hs);clear hat hi hn
     cases hst:standsN n k with
     | true =>
      rw [hst] at HS;have HQ:=kp (show standsTo t (k+1)=true by rw [HSu.out,HTo.out,hst];rfl);clear hst;go_wp2_with fail
      refine HS.out.mono ?_;rintro e w5 ⟨rfl,hb5⟩;have HB5:=kp (HB.out.trans (hb5.mono HB.out.size));clear hb5 q0 qf;go_wp2_with fail
      go_roundw
      case rel=>exact⟨k+1,by omega,by go_num,HQ.out,HB5.out⟩
      case measure=>simp [intOf];omega
     | false =>
      have HR:=kp (show ce=2 by rw [HC.out,HSt.out hst];rfl);rw [hst] at HS;clear hst;go_wp2_with fail
      refine HS.out.mono ?_;rintro e w5 ⟨rfl,hb5⟩;have HB5:=kp (HBW.out.trans (hb5.mono HBW.out.size));clear hb5 q0 qf;go_wp2_with fail
      go_ret;exact⟨ret_int HR.out.symm,HB5.out⟩
    ·obtain rfl:k=t.length:=by omega
     have HPl:=kp (places_any (c:=c) (HL.out.on NodeR.lasts HBW.out) (by omega));unfold PlacesPost at HPl;replace HC:=kp (show ce=if decide t.Nodup then 0 else 2 by rw [HC.out,HTo.out];rfl);generalize decide t.Nodup=nd at *;go_wp2_with fail
     refine HPl.out.mono ?_;rintro e w5 ⟨bm,rfl,hm,hb5,hbm⟩;have HB5:=kp (HBW.out.trans (hb5.mono HBW.out.size));clear hb5 q0 qf hm hbm
     cases nd with
     | true =>
      go_wp2_with fail
      go_ret;exact⟨ret_int (by rw [HC.out];rfl),HB5.out⟩
     | false =>
      go_wp2_with fail
      go_ret;exact⟨ret_int (by rw [HC.out];rfl),HB5.out⟩
end El
end Go.Proofs.YtmcbolkpbklfeaaGreatDoor
