import Derived.Test.YtpmdcckapddchaaGreatDoorShort
import Derived.Test.YtpmdcckapddchaaGreatDoorMz
import Derived.Test.YtpmdcckapddchaaGreatDoorMza
import Derived.Test.YtpmdcckapddchaaGreatDoorMx
/- merged by wip/merge.py from: RTmCheck RTySort -/
set_option maxRecDepth 100000
set_option maxHeartbeats 51200000
namespace Go.Proofs.YtpmdcckapddchaaGreatDoor
namespace El
open Go.RowKit Dt Sg
theorem rnew_any (w:World):Calls Tryz.prog 82 #[] w fun e w'=>∃ g,e=.returned (.agg #[.slice (some ⟨g,0,none⟩) 2 2])/\w.heap.size<=g/\w'.heap[g]?=some (.cells (nodeL nodeTrue ++ nodeL nodeZero).toArray 49 (0,0))/\Below w.heap.size w w':=by
 go_enter Tryz.func82,Tryz.ntmps82
 go_wp2_with fail
 have hz:(w.alloc (.cells #[.slice (some ⟨w.heap.size+1,0,none⟩) 2 2] 29)).heap.size=w.heap.size+1:=by simp
 have NB:=Bk.new (w.alloc (.cells #[.slice (some ⟨w.heap.size+1,0,none⟩) 2 2] 29)) (.cells (nodeL nodeTrue ++ nodeL nodeZero).toArray 49);rw [hz] at NB
 exact table_ret (w:=(w.alloc (.cells #[.slice (some ⟨w.heap.size+1,0,none⟩) 2 2] 29)).alloc (.cells (nodeL nodeTrue ++ nodeL nodeZero).toArray 49)) (b:=w.heap.size) (r0:=.slice (some ⟨w.heap.size+1,0,none⟩) 2 2) Tryz.results82 (Bk.keep (Bk.new w _) _) rfl rfl
  ⟨w.heap.size+1,rfl,by omega,NB,((brq w).alloc nlq _).alloc (by simp) _⟩
theorem take_two {t:List Node} {x y:Node} (hx:t[0]?=some x) (hy:t[1]?=some y):decide (t.take 2=newT)=(decide (x=nodeTrue) && decide (y=nodeZero)):=by
 match t,hx,hy with
 | a :: b :: r,hx,hy =>
  obtain rfl:a=x:=by simpa using hx
  obtain rfl:b=y:=by simpa using hy
  rw [Bool.eq_iff_iff];simp [newT]
theorem nodup_stop {t:List Node} {j k:Nat} {x:Node} (hjk:j < k) (hj:t[j]?=some x) (hk:t[k]?=some x):decide t.Nodup=false:=by
 refine dfq fun h=>?_;obtain ⟨h1,h2⟩:=gqs hj;obtain ⟨h3,h4⟩:=gqs hk;exact(List.pairwise_iff_getElem.1 h) j k h1 h3 hjk (h2.trans h4.symm)
theorem nodup_next {t:List Node} {k:Nat} {x:Node} (h:(t.take k).Nodup) (hk:t[k]?=some x) (hn:∀ j y,j < k->t[j]?=some y->y≠x):(t.take (k+1)).Nodup:=by
 rw [List.take_add_one,hk];simp only [Option.toList_some];rw [List.nodup_append];refine⟨h,by simp,?_⟩;intro a ha b hb;obtain rfl:b=x:=by simpa using hb
 obtain ⟨j,hj⟩:=List.getElem?_of_mem ha;rw [List.getElem?_take] at hj
 split at hj
 ·rename_i hjk;exact hn j a hjk hj
 ·cases hj
theorem rterm_check {w:World} {A:Option Addr} {c:Nat} {t:List Node} (h:Lies 8 NodeR w A t) (hl:t.length<=1000000) :
  Calls Tryz.prog 47 #[.agg #[.slice A t.length c]] w fun e w'=>e=.returned (.int .i64 (checkTE t))/\Below w.heap.size w w':=by
 have HC:=kp (show checkTE t=if(decide (t.take 2=newT) && standsTo t t.length && decide t.Nodup) then 0 else 2 from rfl);have HL:=kp h;have TB:=kp (Bk.new w (.cells #[.slice A t.length c] 29));have B1:=kp ((brq w).alloc nlq (.cells #[.slice A t.length c] 29));have HN:=kp rnew_any;clear h;generalize checkTE t=ce at *
 go_enter Tryz.func47,Tryz.ntmps47
 go_upto_region 1 with fail
 generalize w.alloc (.cells #[.slice A t.length c] 29)=w1 at *;go_wp2_with fail
 refine(HN.out _).mono ?_;rintro e w2 ⟨g,rfl,hg,hgb,hb2⟩;have B3:=kp ((B1.out.trans (hb2.mono B1.out.size)).alloc (Nat.le_trans B1.out.size hb2.size) (.cells #[.slice (some ⟨g,0,none⟩) 2 2] 29));have T3:=kp (Bk.keep (Bk.on TB.out hb2) (.cells #[.slice (some ⟨g,0,none⟩) 2 2] 29));have N3:=kp (Bk.new w2 (.cells #[.slice (some ⟨g,0,none⟩) 2 2] 29));have L3:=kp (new_lies (Bk.keep hgb (.cells #[.slice (some ⟨g,0,none⟩) 2 2] 29)));clear hg hgb hb2;go_upto_region 2 with fail
 generalize w2.alloc (.cells #[.slice (some ⟨g,0,none⟩) 2 2] 29)=w3 at *;generalize w2.heap.size=nb at *;have B0:=kp (brq w3).drew;have BD:=kp B3.out.drew;have TD:=kp (show w3.drew.heap[w.heap.size]?=_ from T3.out)
 by_cases h2:t.length < 2
 ·have h2':(t.length:Int) < 2:=by omega
  have HR:=kp (show ce=2 by
   rw [HC.out];have:¬ t.take 2=newT:=fun e=>by have:=congrArg List.length e;rw [List.length_take] at this;simp [newT] at this;omega
   rw [dfq this];rfl)
  refine wp_region_held_drew (S:=fun W=>Below w3.heap.size w3 W) (by kernel_rfl) (B0.out) (fun hHeld=>?_);refine plz [0,1,2,3,4] ?_;iterate 5 (refine tnz (v:=?_) ?_ ?_;rotate_left;(focus first | ((intro w hSw;go_simp;try with_reducible rfl);done) | ((intro w hSw;(obtain ⟨h0,hf⟩:=Bk.c1 (Bk.on T3.out hSw);go_simp;try with_reducible rfl));done));try simp only [pt])
  refine pzz ?_;refine sk 5 ?_;try simp only [pt]
  refine sk 6 ?_;try simp only [pt]
  refine sk 7 ?_;try simp only [pt]
  refine sk 8 ?_;try simp only [pt]
  refine sk 9 ?_;try simp only [pt]
  refine sk 10 ?_;try simp only [pt]
  refine sk 11 ?_;try simp only [pt]
  refine sk 12 ?_;try simp only [pt]
  refine sk 13 ?_;try simp only [pt]
  refine plz [14,15] ?_;iterate 2 (refine tnz (v:=?_) ?_ ?_;rotate_left;(focus (intro w hSw;go_simp;try with_reducible rfl));try simp only [pt])
  refine pzz ?_;refine sk 16 ?_;try simp only [pt]
  refine sk 17 ?_;try simp only [pt]
  refine sk 18 ?_;try simp only [pt]
  refine sk 19 ?_;try simp only [pt]
  refine sk 20 ?_;try simp only [pt]
  refine sk 21 ?_;try simp only [pt]
  refine sk 22 ?_;try simp only [pt]
  refine sk 23 ?_;try simp only [pt]
  refine sk 24 ?_;try simp only [pt]
  refine tk 25 (v:=?_) ?_ ?_;rotate_left
  ·(intro w hSw;go_simp;try with_reducible rfl)
  try simp only [pt]
  refine dnz ?_;clear hHeld;go_wp2_with fail
  go_ret;exact⟨ret_int HR.out.symm,BD.out⟩
 have h2':decide ((t.length:Int) < 2)=false:=dfq (by omega);have h2n:(1:Int) < (t.length:Int):=by omega
 have h2m:(0:Int) < (t.length:Int):=by omega
 have h2p:0 < t.length:=by omega
 have h2q:1 < t.length:=by omega
 obtain ⟨x0,hx0⟩:∃ x,t[0]?=some x:=⟨_,gqe (by omega)⟩;obtain ⟨x1,hx1⟩:∃ x,t[1]?=some x:=⟨_,gqe (by omega)⟩;obtain ⟨b,o,rfl,n0,i0⟩:=node_get (HL.out.on NodeR.lasts B3.out) hx0;obtain ⟨b',o',hA,n1,i1⟩:=node_get (HL.out.on NodeR.lasts B3.out) hx1;obtain ⟨rfl,rfl⟩:=aiq hA;obtain ⟨bg,og,hA,m0,j0⟩:=node_get (k:=0) (n:=nodeTrue) L3.out rfl;obtain ⟨rfl,rfl⟩:=aiq hA;obtain ⟨bg,og,hA,m1,j1⟩:=node_get (k:=1) (n:=nodeZero) L3.out rfl;obtain ⟨rfl,rfl⟩:=aiq hA;have HE0:=kp (fun W=>node_eqIn i0 j0 W);have HE1:=kp (fun W=>node_eqIn i1 j1 W);rw [take_two hx0 hx1] at HC;have N0:=kp n0;have N1:=kp n1;have M0:=kp m0;have M1:=kp m1;clear n0 n1 m0 m1 i0 i1 j0 j1 hx0 hx1;unfold nodeV at HE0 HE1;generalize nodeTrue=z0 at *;generalize nodeZero=z1 at *;rw [Nat.zero_mul,Nat.add_zero] at N0 M0;rw [Nat.one_mul] at N1;rw [Nat.zero_add,Nat.one_mul] at M1
 cases he0:decide (x0=z0) with
 | false =>
  have HR:=kp (show ce=2 by rw [HC.out,he0];rfl);rw [he0] at HE0;have hab:=HE0.out;clear he0 HE0 HE1;refine wp_region_held_drew (S:=fun W=>Below w3.heap.size w3 W) (by kernel_rfl) (B0.out) (fun hHeld=>?_);refine plz [0,1,2,3,4,5,6,7,8,9,10,11,12,13,14,15] ?_;iterate 16 (refine tnz (v:=?_) ?_ ?_;rotate_left;(focus first | ((intro w hSw;go_simp;try with_reducible rfl);done) | ((intro w hSw;(obtain ⟨h0,hf⟩:=Bk.c1 (Bk.on T3.out hSw);go_simp;try with_reducible rfl));done) | ((intro w hSw;(obtain ⟨hbl,h0,h1,h2,h3,h4,h5,h6,h7⟩:=N0.out.on hSw;go_simp;try with_reducible rfl));done) | ((intro w hSw;(obtain ⟨h0,hf⟩:=Bk.c1 (Bk.on N3.out hSw);go_simp;try with_reducible rfl));done) | ((intro w hSw;(obtain ⟨hbl,h0,h1,h2,h3,h4,h5,h6,h7⟩:=M0.out.on hSw;go_simp;try with_reducible rfl));done));try simp only [pt])
  refine pzz ?_;refine sk 16 ?_;try simp only [pt]
  refine sk 17 ?_;try simp only [pt]
  refine sk 18 ?_;try simp only [pt]
  refine sk 19 ?_;try simp only [pt]
  refine sk 20 ?_;try simp only [pt]
  refine sk 21 ?_;try simp only [pt]
  refine sk 22 ?_;try simp only [pt]
  refine sk 23 ?_;try simp only [pt]
  refine sk 24 ?_;try simp only [pt]
  refine tk 25 (v:=?_) ?_ ?_;rotate_left
  ·(intro w hSw;go_simp;try with_reducible rfl)
  try simp only [pt]
  refine dnz ?_;clear hHeld;go_wp2_with fail
  go_ret;exact⟨ret_int HR.out.symm,BD.out⟩
 | true =>
  rw [he0] at HE0 HC
  cases he1:decide (x1=z1) with
  | false =>
   have HR:=kp (show ce=2 by rw [HC.out,he1];rfl);rw [he1] at HE1;refine wp_region_held_drew (S:=fun W=>Below w3.heap.size w3 W) (by kernel_rfl) (B0.out) (fun hHeld=>?_);refine plz [0,1,2,3,4,5,6,7,8,9,10,11,12] ?_;iterate 13 (refine tnz (v:=?_) ?_ ?_;rotate_left;(focus first | ((intro w hSw;go_simp;try with_reducible rfl);done) | ((intro w hSw;(obtain ⟨h0,hf⟩:=Bk.c1 (Bk.on T3.out hSw);go_simp;try with_reducible rfl));done) | ((intro w hSw;(obtain ⟨hbl,h0,h1,h2,h3,h4,h5,h6,h7⟩:=N0.out.on hSw;go_simp;try with_reducible rfl));done) | ((intro w hSw;(obtain ⟨h0,hf⟩:=Bk.c1 (Bk.on N3.out hSw);go_simp;try with_reducible rfl));done) | ((intro w hSw;(obtain ⟨hbl,h0,h1,h2,h3,h4,h5,h6,h7⟩:=M0.out.on hSw;go_simp;try with_reducible rfl));done));try simp only [pt])
   refine pzz ?_;have hab:=HE0.out;refine plz [13,14,15] ?_;iterate 3 (refine tnz (v:=?_) ?_ ?_;rotate_left;(focus (intro w hSw;go_simp;try with_reducible rfl));try simp only [pt])
   refine pzz ?_;clear hab he0 he1 HE0;refine plz [16,17,18,19,20,21,22,23] ?_;iterate 8 (refine tnz (v:=?_) ?_ ?_;rotate_left;(focus first | ((intro w hSw;go_simp;try with_reducible rfl);done) | ((intro w hSw;(obtain ⟨h0,hf⟩:=Bk.c1 (Bk.on T3.out hSw);go_simp;try with_reducible rfl));done) | ((intro w hSw;(obtain ⟨hbl,h0,h1,h2,h3,h4,h5,h6,h7⟩:=N1.out.on hSw;go_simp;try with_reducible rfl));done) | ((intro w hSw;(obtain ⟨h0,hf⟩:=Bk.c1 (Bk.on N3.out hSw);go_simp;try with_reducible rfl));done) | ((intro w hSw;(obtain ⟨hbl,h0,h1,h2,h3,h4,h5,h6,h7⟩:=M1.out.on hSw;go_simp;try with_reducible rfl));done));try simp only [pt])
   refine pzz ?_;have hab:=HE1.out;refine plz [24,25] ?_;iterate 2 (refine tnz (v:=?_) ?_ ?_;rotate_left;(focus (intro w hSw;go_simp;try with_reducible rfl));try simp only [pt])
   refine pzz ?_;refine dnz ?_;clear hHeld;go_wp2_with fail
   go_ret;exact⟨ret_int HR.out.symm,BD.out⟩
  | true =>
   rw [he1] at HE1;replace HC:=kp (show ce=if(standsTo t t.length && decide t.Nodup)=true then 0 else 2 by rw [HC.out,he1];rfl);refine wp_region_held_drew (S:=fun W=>Below w3.heap.size w3 W) (by kernel_rfl) (B0.out) (fun hHeld=>?_);refine plz [0,1,2,3,4,5,6,7,8,9,10,11,12] ?_;iterate 13 (refine tnz (v:=?_) ?_ ?_;rotate_left;(focus first | ((intro w hSw;go_simp;try with_reducible rfl);done) | ((intro w hSw;(obtain ⟨h0,hf⟩:=Bk.c1 (Bk.on T3.out hSw);go_simp;try with_reducible rfl));done) | ((intro w hSw;(obtain ⟨hbl,h0,h1,h2,h3,h4,h5,h6,h7⟩:=N0.out.on hSw;go_simp;try with_reducible rfl));done) | ((intro w hSw;(obtain ⟨h0,hf⟩:=Bk.c1 (Bk.on N3.out hSw);go_simp;try with_reducible rfl));done) | ((intro w hSw;(obtain ⟨hbl,h0,h1,h2,h3,h4,h5,h6,h7⟩:=M0.out.on hSw;go_simp;try with_reducible rfl));done));try simp only [pt])
   refine pzz ?_;have hab:=HE0.out;refine plz [13,14,15] ?_;iterate 3 (refine tnz (v:=?_) ?_ ?_;rotate_left;(focus (intro w hSw;go_simp;try with_reducible rfl));try simp only [pt])
   refine pzz ?_;clear hab he0 he1 HE0;refine plz [16,17,18,19,20,21,22,23] ?_;iterate 8 (refine tnz (v:=?_) ?_ ?_;rotate_left;(focus first | ((intro w hSw;go_simp;try with_reducible rfl);done) | ((intro w hSw;(obtain ⟨h0,hf⟩:=Bk.c1 (Bk.on T3.out hSw);go_simp;try with_reducible rfl));done) | ((intro w hSw;(obtain ⟨hbl,h0,h1,h2,h3,h4,h5,h6,h7⟩:=N1.out.on hSw;go_simp;try with_reducible rfl));done) | ((intro w hSw;(obtain ⟨h0,hf⟩:=Bk.c1 (Bk.on N3.out hSw);go_simp;try with_reducible rfl));done) | ((intro w hSw;(obtain ⟨hbl,h0,h1,h2,h3,h4,h5,h6,h7⟩:=M1.out.on hSw;go_simp;try with_reducible rfl));done));try simp only [pt])
   refine pzz ?_;have hab:=HE1.out;refine plz [24,25] ?_;iterate 2 (refine tnz (v:=?_) ?_ ?_;rotate_left;(focus (intro w hSw;go_simp;try with_reducible rfl));try simp only [pt])
   refine pzz ?_;refine dnz ?_;clear hHeld hab HE1 N0 N1 M0 M1 L3 N3;generalize hwd:World.drew _=wd at *;clear hwd;go_wp2_with fail
   go_loopw [4] (fun v wr=>∃ k:Nat,k<=t.length/\v=.int .i64 k/\standsTo t k=true/\(t.take k).Nodup/\Below wd.heap.size wd wr) (fun v _=>t.length - (intOf v).toNat)
   case atStart=>exact⟨0,Nat.zero_le _,rfl,rfl,by simp,Below.refl _ _⟩
   case round =>
    obtain ⟨k,hk,rfl,hto,hnd,hb⟩:=hrel;have HTo:=kp hto;have HNd:=kp hnd;have HB:=kp hb;have HBW:=kp (BD.out.trans (hb.mono BD.out.size));have TBr:=kp (Bk.on TD.out hb);clear hto hb hnd;obtain ⟨q0,qf⟩:=Bk.c1 TBr.out
    by_cases hlt:k < t.length
    ·have hlt2:(k:Int) < (t.length:Int):=by omega
     obtain ⟨n,hn⟩:∃ n,t[k]?=some n:=⟨_,gqe hlt⟩;obtain ⟨b',o',hA,hat,hi⟩:=node_get (HL.out.on NodeR.lasts HBW.out) hn;obtain ⟨rfl,rfl⟩:=aiq hA;have HS:=kp (fun W=>rterm_stands (w:=W) hi (k:Int));have HSu:=kp (standsTo_succ hn);have HSt:=kp (fun hs=>standsTo_stop hn hs);have HI:=kp hi;have HAt:=kp hat;have HNn:=kp hn;unfold nodeV at HS;obtain ⟨_,p0,p1,p2,p3,p4,p5,p6,p7⟩:=hat;clear hi hn
     cases hst:standsN n k with
     | false =>
      have HR:=kp (show ce=2 by rw [HC.out,HSt.out hst];rfl);rw [hst] at HS;clear hst;go_wp2_with fail
      refine(HS.out _).mono ?_;rintro e w5 ⟨rfl,hb5⟩;have HB5:=kp (HBW.out.trans (hb5.mono HBW.out.size));clear hb5 q0 qf p0 p1 p2 p3 p4 p5 p6 p7;go_wp2_with fail
      go_ret;exact⟨ret_int HR.out.symm,HB5.out⟩
     | true =>
      rw [hst] at HS;have HQ:=kp (show standsTo t (k+1)=true by rw [HSu.out,HTo.out,hst];rfl);clear hst;go_wp2_with fail
      refine(HS.out _).mono ?_;rintro e w5 ⟨rfl,hb5⟩;have HB5:=kp (HB.out.trans (hb5.mono HB.out.size));have HBW5:=kp (HBW.out.trans (hb5.mono HBW.out.size));have TB5:=kp (Bk.on TBr.out hb5);have HAt5:=kp (HAt.out.on hb5);clear hb5 q0 qf p0 p1 p2 p3 p4 p5 p6 p7;go_wp2_with fail
      have HSz:=kp HB5.out.size;have HNx:=kp (fun hd=>nodup_next HNd.out HNn.out hd);clear HS HSu HSt TBr HAt HB HBW HTo HNd
      go_loopw [5] (fun v wr=>∃ j:Nat,j<=k/\v=.int .i64 j/\(∀ i y,i < j->t[i]?=some y->y≠n)/\Below w5.heap.size w5 wr) (fun v _=>k - (intOf v).toNat)
      case atStart=>exact⟨0,Nat.zero_le _,rfl,fun i y hi=>by omega,Below.refl _ _⟩
      case round =>
       obtain ⟨j,hj,rfl,hd,hb6⟩:=hrel;have HD:=kp hd;have H6:=kp (HB5.out.trans (hb6.mono HB5.out.size));have HW6:=kp (HBW5.out.trans (hb6.mono HBW5.out.size));have HB6:=kp hb6;have TB6:=kp (Bk.on TB5.out hb6);have HAt6:=kp (HAt5.out.on hb6);clear hd hb6
       by_cases hjk:j < k
       ·have hjk2:(j:Int) < (k:Int):=by omega
        have hjl:(j:Int) < (t.length:Int):=by omega
        have hjl2:j < t.length:=by omega
        obtain ⟨y,hy⟩:∃ y,t[j]?=some y:=⟨_,gqe hjl2⟩;obtain ⟨b2,o2,hA,haj,hij⟩:=node_get (HL.out.on NodeR.lasts HW6.out) hy;obtain ⟨rfl,rfl⟩:=aiq hA;have HAj:=kp haj;have HE:=kp (fun W=>node_eqIn hij HI.out W)
        have HDk:=kp (show y≠n->∀ i z,i < j+1->t[i]?=some z->z≠n from fun hne i z hi hz=>by
         by_cases h:i < j
         ·exact HD.out i z h hz
         ·obtain rfl:i=j:=by omega
          rw [hy] at hz
          cases hz
          exact hne)
        have HSp:=kp (show y=n->decide t.Nodup=false from fun e=>nodup_stop hjk hy (e ▸ HNn.out));unfold nodeV at HE;clear haj hij hy;have B0:=kp (brq wr).drew
        cases heq:decide (y=n) with
        | true =>
         have HR:=kp (show ce=2 by rw [HC.out,HSp.out (of_decide_eq_true heq)];simp);rw [heq] at HE;have hab:=HE.out;clear heq;go_wp2_with fail
         refine wp_region_held_drew (S:=fun W=>Below wr.heap.size wr W) (by kernel_rfl) (B0.out) (fun hHeld=>?_);refine plz [0,1,2,3,4,5,6,7,8,9,10] ?_;iterate 11 (refine tnz (v:=?_) ?_ ?_;rotate_left;(focus first | ((intro w hSw;go_simp;try with_reducible rfl);done) | ((intro w hSw;(obtain ⟨h0,hf⟩:=Bk.c1 (Bk.on TB6.out hSw);go_simp;try with_reducible rfl));done) | ((intro w hSw;(obtain ⟨hbl,h0,h1,h2,h3,h4,h5,h6,h7⟩:=HAj.out.on hSw;go_simp;try with_reducible rfl));done) | ((intro w hSw;(obtain ⟨hbl,h0,h1,h2,h3,h4,h5,h6,h7⟩:=HAt6.out.on hSw;go_simp;try with_reducible rfl));done));try simp only [pt])
         refine pzz ?_;refine dnz ?_;clear hHeld;go_wp2_with fail
         go_ret;exact⟨ret_int HR.out.symm,HW6.out.drew⟩
        | false =>
         have HQ2:=kp (HDk.out (of_decide_eq_false heq));rw [heq] at HE;have hab:=HE.out;clear heq;go_wp2_with fail
         refine wp_region_held_drew (S:=fun W=>Below wr.heap.size wr W) (by kernel_rfl) (B0.out) (fun hHeld=>?_);refine plz [0,1,2,3,4,5,6,7,8,9,10] ?_;iterate 11 (refine tnz (v:=?_) ?_ ?_;rotate_left;(focus first | ((intro w hSw;go_simp;try with_reducible rfl);done) | ((intro w hSw;(obtain ⟨h0,hf⟩:=Bk.c1 (Bk.on TB6.out hSw);go_simp;try with_reducible rfl));done) | ((intro w hSw;(obtain ⟨hbl,h0,h1,h2,h3,h4,h5,h6,h7⟩:=HAj.out.on hSw;go_simp;try with_reducible rfl));done) | ((intro w hSw;(obtain ⟨hbl,h0,h1,h2,h3,h4,h5,h6,h7⟩:=HAt6.out.on hSw;go_simp;try with_reducible rfl));done));try simp only [pt])
         refine pzz ?_;refine dnz ?_;clear hHeld;go_wp2_with fail
         go_roundw
         case rel=>exact⟨j+1,by omega,by go_num,HQ2.out,HB6.out.drew⟩
         case measure=>simp [intOf];omega
       ·obtain rfl:j=k:=by omega
        have HQ2:=kp (HNx.out HD.out);go_wp2_with fail
        go_roundw
        case rel=>exact⟨j+1,by omega,by go_num,HQ.out,HQ2.out,H6.out⟩
        case measure=>simp [intOf];omega
    ·obtain rfl:k=t.length:=by omega
     have HR:=kp (show ce=0 by
      have h1:=HNd.out;rw [List.take_length] at h1;rw [HC.out,HTo.out,decide_eq_true h1];rfl)
     go_wp2_with fail
     go_ret;exact⟨ret_int HR.out.symm,HBW.out⟩
def RulePost (g:Sig) (t:List Node) (n:Node) (w:World) (e:Ending) (w':World):Prop :=
 (∃ a er,e=.returned (.tuple #[.int .i64 a,.int .i64 er])/\((er=0/\(sortProg g t n).2=0/\a=(sortProg g t n).1)\/(er≠0/\(sortProg g t n).2≠0)))/\Below w.heap.size w w'
theorem rop_prog {op:Int} {l:List Int} {w:World} {e:Ending} {w':World} (h:RopPost op l w e w'):(∃ a er,e=.returned (.tuple #[.int .i64 a,.int .i64 er])/\((er=0/\(opProg op l).2=0/\a=(opProg op l).1)\/(er≠0/\(opProg op l).2≠0)))/\Below w.heap.size w w':=by
 obtain ⟨⟨a,er,h1,h2,h3⟩,hb⟩:=h;refine⟨⟨a,er,h1,?_⟩,hb⟩
 cases ho:opS op l with
 | some s =>
  obtain ⟨rfl,rfl⟩:=h2 s ho;have:=opProg_some.1 _ ho;rw [this];exact .inl ⟨rfl,rfl,rfl⟩
 | none =>
  have h4:=(h3 ho).2;have h5:=(opProg_some.2 ho).2;exact .inr ⟨by omega,by omega⟩
theorem owns_kept {S:Nat->Prop} {w w':World} {B m n:Nat} {t:TypeId} {v:Value} {xs:List Value} (h:w.ownsRow B t m v n xs) (hk:Keeps S w w') (hS:∀ k,S k->k < B):w'.ownsRow B t m v n xs:=by
 refine⟨h.1,?_⟩;rcases h.2 with h1 | ⟨g,cap,cur,h1,h2,h3,h4⟩
 ·exact .inl h1
 ·exact .inr ⟨g,cap,cur,h1,h2,(hk.block g (lt_of_block h3) (fun hs=>by have:=hS g hs;omega)).trans h3,h4⟩
theorem rrule_any {w:World} {A1 A2 A3:Option Addr} {c1 c2 c3:Nat} {g:Sig} (h:SigAt w A1 c1 A2 c2 A3 c3 g) (hg:checkE g=0) {A:Option Addr} {t:List Node} (c:Nat) (ht:Lies 8 NodeR w A t) {n:Node} (hi:NodeI n) {a:Int} (hs:standsN n a=true) (ha:a<=t.length) :
  Calls Tryz.prog 48 #[.agg #[.slice A1 g.sorts.length c1,.slice A2 g.funs.length c2,.slice A3 g.macros.length c3],.agg #[.slice A t.length c],nodeV n] w (RulePost g t n w):=by
 obtain ⟨i0,hi0,z0,z1,z2⟩:=info_parts info_int;have I0:=kp hi0;have I1:=kp z0;have I2:=kp z1;have I3:=kp z2;clear hi0 z0 z1 z2;obtain ⟨hlen0,hlen3⟩:=stands_len hs;have HArg:=kp (fun(i:Nat) (h:(i:Int) < n.len)=>stands_arg hs h);have HP:=kp (show ∀ x er w',((er=0/\(sortProg g t n).2=0/\x=(sortProg g t n).1)\/(er≠0/\(sortProg g t n).2≠0))->Below w.heap.size w w'->RulePost g t n w (.returned (.tuple #[.int .i64 x,.int .i64 er])) w' from fun x er w' h1 h2=>⟨⟨x,er,rfl,h1⟩,h2⟩);have HT:=kp ht;have HI:=kp hi;have HA:=kp (show sortProg g t n=if n.op=13 then appProg g n.fn (sortsTo t n n.len.toNat) else opProg n.op (sortsTo t n n.len.toNat) from rfl);have HApp:=kp (fun W (hW:Below w.heap.size w W) A l c hl hn=>rapp_any (h.on hW) hg (A:=A) (l:=l) c n.fn hl hn);have HOp:=kp (fun W A l c hl hn=>rop_any (w:=W) (A:=A) (l:=l) c n.op hl hn);have B3:=kp ((((brq w).alloc nlq (.cells #[.slice A1 g.sorts.length c1,.slice A2 g.funs.length c2,.slice A3 g.macros.length c3] 26)).alloc (by simp) (.cells #[.slice A t.length c] 29)).alloc (by simp;omega) (.cells #[.int .i8 n.op,.int .i8 n.len,.int .i64 n.a0,.int .i64 n.a1,.int .i64 n.a2,.int .i64 n.sort,.int .i64 n.fn,.int .i64 n.n] 49));have S3:=kp (Bk.keep (Bk.keep (Bk.new w (.cells #[.slice A1 g.sorts.length c1,.slice A2 g.funs.length c2,.slice A3 g.macros.length c3] 26)) (.cells #[.slice A t.length c] 29)) (.cells #[.int .i8 n.op,.int .i8 n.len,.int .i64 n.a0,.int .i64 n.a1,.int .i64 n.a2,.int .i64 n.sort,.int .i64 n.fn,.int .i64 n.n] 49))
 have T3:=kp (Bk.keep (show((w.alloc (.cells #[.slice A1 g.sorts.length c1,.slice A2 g.funs.length c2,.slice A3 g.macros.length c3] 26)).alloc (.cells #[.slice A t.length c] 29)).heap[w.heap.size+1]?=some (.cells #[.slice A t.length c] 29 (0,0)) by
  have h:=Bk.new (w.alloc (.cells #[.slice A1 g.sorts.length c1,.slice A2 g.funs.length c2,.slice A3 g.macros.length c3] 26)) (.cells #[.slice A t.length c] 29);simpa using h) (.cells #[.int .i8 n.op,.int .i8 n.len,.int .i64 n.a0,.int .i64 n.a1,.int .i64 n.a2,.int .i64 n.sort,.int .i64 n.fn,.int .i64 n.n] 49))
 have N3:=kp (show(((w.alloc (.cells #[.slice A1 g.sorts.length c1,.slice A2 g.funs.length c2,.slice A3 g.macros.length c3] 26)).alloc (.cells #[.slice A t.length c] 29)).alloc (.cells #[.int .i8 n.op,.int .i8 n.len,.int .i64 n.a0,.int .i64 n.a1,.int .i64 n.a2,.int .i64 n.sort,.int .i64 n.fn,.int .i64 n.n] 49)).heap[w.heap.size+2]?=some (.cells (nodeL n).toArray 49 (0,0)) by
  have h:=Bk.new ((w.alloc (.cells #[.slice A1 g.sorts.length c1,.slice A2 g.funs.length c2,.slice A3 g.macros.length c3] 26)).alloc (.cells #[.slice A t.length c] 29)) (.cells (nodeL n).toArray 49);rw [show((w.alloc (.cells #[.slice A1 g.sorts.length c1,.slice A2 g.funs.length c2,.slice A3 g.macros.length c3] 26)).alloc (.cells #[.slice A t.length c] 29)).heap.size=w.heap.size+2 by simp] at h;exact h)
 clear hs h hg ht hi;obtain ⟨m,hm⟩:∃ m:Nat,n.len=(m:Int):=⟨n.len.toNat,by omega⟩;have HM:=kp hm;rw [hm] at HA HArg hlen0 hlen3;rw [Int.toNat_natCast] at HA;have hm3:m<=3:=by omega
 clear hm;unfold nodeV;generalize RulePost g t n w=PP at *;generalize sortProg g t n=res at *
 go_enter Tryz.func48,Tryz.ntmps48
 go_upto_region 1 with fail
 generalize ((w.alloc (.cells #[.slice A1 g.sorts.length c1,.slice A2 g.funs.length c2,.slice A3 g.macros.length c3] 26)).alloc (.cells #[.slice A t.length c] 29)).alloc (.cells #[.int .i8 n.op,.int .i8 n.len,.int .i64 n.a0,.int .i64 n.a1,.int .i64 n.a2,.int .i64 n.sort,.int .i64 n.fn,.int .i64 n.n] 49)=w3 at *;have HZ3:=kp (lt_of_block N3.out);go_wp2_with fail
 go_loopw [8,9] (fun v i wr=>∃ k:Nat,k<=m/\i=.int .i64 k/\wr.ownsRow w3.heap.size 3 1 v k ((sortsTo t n k).map (Value.int .i64))/\Below w3.heap.size w3 wr) (fun _ i _=>m - (intOf i).toNat)
 case atStart=>exact⟨0,Nat.zero_le _,rfl,⟨by simp [sortsTo],.inl ⟨rfl,rfl⟩⟩,Below.refl _ _⟩
 case round =>
  obtain ⟨k,hk,rfl,hown,hb⟩:=hrel;have HO:=kp hown;have HB:=kp hb;have HBw:=kp (B3.out.trans (hb.mono B3.out.size));have SR:=kp (Bk.on S3.out hb);have TR:=kp (Bk.on T3.out hb);have NR:=kp (Bk.on N3.out hb);obtain ⟨A',c',rfl⟩:=shape_of_owns hown;clear hown hb;obtain ⟨_,h0,h1,h2,h3,h4,h5,h6,h7⟩:=node_block NR.out;have hm':=HM.out;rw [hm'] at h1;clear hm';have hl1:(-128:Int)<=(m:Int):=by omega
  have hl2:(m:Int)<=127:=by omega
  by_cases hlt:k < m
  ·have hlt2:(k:Int) < (m:Int):=by omega
   have hk3:k < 3:=by omega
   have hk4:(k:Int) < 3:=by omega
   have hq:=HArg.out k hlt2;obtain ⟨q,hq2⟩:∃ q:Nat,n.arg k=(q:Int):=⟨(n.arg k).toNat,by omega⟩;have hql:q < t.length:=by omega
   have hql2:(q:Int) < (t.length:Int):=by omega
   obtain ⟨y,hy⟩:∃ y,t[q]?=some y:=⟨_,gqe hql⟩;obtain ⟨b,o,hA,hya,hyi⟩:=node_get (HT.out.on NodeR.lasts HBw.out) hy;subst hA
   have HSu:=kp (show sortsTo t n (k+1)=sortsTo t n k ++ [y.sort] by
    rw [sortsTo_succ,hq2,Int.toNat_natCast,List.getD_eq_getElem?_getD,hy];rfl)
   have HAr:=kp (fun(W:World) (hN:W.heap[w.heap.size+2]?=some (.cells (nodeL n).toArray 49 (0,0)))=>show W.cell? ⟨w.heap.size+2,2+k,none⟩=some (.int .i64 (q:Int)) by
    have h:=NodeAt.arg' (node_block hN) hk3;rw [hq2,Nat.zero_add] at h;exact h)
   have HYc:=kp (show wr.cell? ⟨b,o+q * 8+5,none⟩=some (.int .i64 y.sort) from hya.2.2.2.2.2.2.1);have HYb:=kp hya.1;have HSz:=kp HB.out.size
   have HYk:=kp (fun(W:World) (hW:∀ q,q < w3.heap.size->W.heap[q]?=wr.heap[q]?)=>show W.cell? ⟨b,o+q * 8+5,none⟩=some (.int .i64 y.sort) from(World.cell?_of_block (hW b (by
    obtain ⟨b2,o2,e2,ha2,_⟩:=node_get (HT.out.on NodeR.lasts B3.out) hy;obtain ⟨rfl,rfl⟩:=aiq e2;exact ha2.1))).trans HYc.out)
   clear hya hyi hy hq hq2;have hk48:k < 1000000:=by omega
   go_wp2_with fail
   clear h0 h1 h2 h3 h4 h5 h6 h7;have HSx:=kp (show wr.drew.heap[w.heap.size+1]?=_/\wr.drew.heap[w.heap.size+2]?=_/\wr.drew.cell? ⟨b,o+q * 8+5,none⟩=_ from⟨TR.out,NR.out,HYc.out⟩);refine wp_region_held_drew (S:=fun W=>W.heap[w.heap.size+1]?=some (.cells #[.slice (some ⟨b,o,none⟩) t.length c] 29 (0,0))/\W.heap[w.heap.size+2]?=some (.cells (nodeL n).toArray 49 (0,0))/\W.cell? ⟨b,o+q * 8+5,none⟩=some (.int .i64 y.sort)) (by kernel_rfl) (HSx.out) (fun hHeld=>?_);refine plz [0,1,2,3,4,5,6,7,8,9] ?_;iterate 10 (refine tnz (v:=?_) ?_ ?_;rotate_left;(focus first | ((intro w hSw;go_simp;try with_reducible rfl);done) | ((intro w hSw;(obtain ⟨t0,tf⟩:=Bk.c1 hSw.1;go_simp;try with_reducible rfl));done) | ((intro w hSw;(have p0:=HAr.out _ hSw.2.1;go_simp;try with_reducible rfl));done) | ((intro w hSw;(have p1:=hSw.2.2;go_simp;try with_reducible rfl));done));try simp only [pt])
   refine pzz ?_;have BA:=kp (HB.out.drew.alloc HSz.out (.cells #[.int .i64 y.sort] 3));refine rd 10 fun K hK=>?_;go_simp;refine hK.out _ _ (⟨Bk.keep HSx.out.1 _,Bk.keep HSx.out.2.1 _,(((brq wr).drew.alloc nlq _).cell (p:=⟨b,o+q * 8+5,none⟩) HYb.out).trans HYc.out⟩) (fun hHeld=>?_);clear hK K;try simp only [pt]
   have HOw:=kp (owns_kept HO.out (Keeps.of_below ((brq wr).drew.alloc nlq (.cells #[.int .i64 y.sort] 3)) (fun _=>False)) (fun _ h=>h.elim));have HCl:=kp (Cells.new wr.drew [.int .i64 y.sort] 3 (0,0));have HSz2:=kp HSz.out;refine rd 11 fun K hK=>?_
   (refine step_append_at (by rfl) _ _ _ (by rfl) w3.heap.size 3 i0 (.int .i64 0) 1 8 Tryz.underlying45 I0.out I1.out I2.out I3.out rfl (by decide) (.slice A' k c') k ((sortsTo t n k).map (Value.int .i64)) (by rfl) HOw.out (some ⟨wr.heap.size,0,none⟩) 1 1 [.int .i64 y.sort] (by rfl) rfl HCl.out (by simp [Value.oneCell']) (by unfold maxLen;omega) (by omega) (by have:=HSz2.out;simp;omega) ?_;intro v' w8 hown hgr hat;obtain ⟨A8,c8,rfl⟩:=shape_of_owns hown;have hkp:∀ q,q < w3.heap.size->w8.heap[q]?=wr.heap[q]?:=fun q hq=>(hgr.block q (by have:=HSz2.out;simp;omega) (fun e=>by have h1:=(HOw.out.lt q e.symm).1;omega)).trans (Below.heap_alloc wr.drew _ q (by have:=HSz2.out;show q < wr.heap.size;omega)))
   refine hK.out _ _ (⟨(hkp _ (lt_of_block T3.out)).trans TR.out,(hkp _ (lt_of_block N3.out)).trans NR.out,HYk.out w8 hkp⟩) (fun hHeld=>?_);clear hK K;try simp only [pt]
   refine tk 12 (v:=?_) ?_ ?_;rotate_left
   ·(intro w hSw;go_simp;try with_reducible rfl)
   try simp only [pt]
   refine dnz ?_;clear hHeld;have BW:=kp (show Below w3.heap.size w3 w8 from BA.out.grown hgr (by have:=HSz2.out;simp;omega) (fun q hq=>(HOw.out.lt q hq).1));have OW:=kp (show w8.ownsRow w3.heap.size 3 1 (.slice A8 (k+1) c8) (k+1) ((sortsTo t n (k+1)).map (Value.int .i64)) by rw [HSu.out,List.map_append];exact hown);clear hown hgr hat hkp;go_wp2_with fail
   go_roundw
   case rel=>exact⟨k+1,by omega,by go_num,OW.out,BW.out⟩
   case measure=>simp [intOf];omega
  ·obtain rfl:k=m:=by omega
   have HCl:=kp (Cells.own HO.out);have HLn:=kp (sortsTo_len t n k);have HAp:=kp (HApp.out wr HBw.out A' (sortsTo t n k) c' HCl.out (by have:=HLn.out;omega));have HOo:=kp (HOp.out wr A' (sortsTo t n k) c' HCl.out (by have:=HLn.out;omega));rw [HLn.out] at HAp HOo;clear HCl HO;generalize sortsTo t n k=l at *;obtain ⟨s0,s1,s2,sf⟩:=Bk.c3 SR.out;have hge:decide ((k:Int) < (k:Int))=false:=dfq (by omega)
   by_cases ho:n.op=13
   ·have hop:(n.op == 13)=true:=by rw [ho];rfl
    have HE:=kp (HA.out.trans (if_pos ho));unfold AppPost at HAp;clear ho;generalize appProg g n.fn l=r at *;obtain ⟨r1,r2⟩:=r;go_wp2_with fail
    refine HAp.out.mono ?_;rintro e w6 ⟨rfl,hb6⟩;have B6:=kp (HBw.out.trans (hb6.mono HBw.out.size));clear hb6
    by_cases hr:r2=0
    ·have hr':(r2 != 0)=false:=by simp [hr]
     have HF:=kp (HP.out r1 0 w6 (.inl ⟨rfl,by rw [HE.out];exact hr,by rw [HE.out]⟩) B6.out);clear hr;go_wp2_with fail
     exact HF.out
    ·have hr':(r2 != 0)=true:=by simp [hr]
     have HF:=kp (HP.out 0 33 w6 (.inr ⟨by decide,by rw [HE.out];exact hr⟩) B6.out);clear hr;go_wp2_with fail
     exact HF.out
   ·have hop:(n.op == 13)=false:=by rw [beq_eq_false_iff_ne];exact ho
    have HE:=kp (HA.out.trans (if_neg ho));clear ho;go_wp2_with fail
    refine HOo.out.mono ?_;intro e w6 hpo;obtain ⟨⟨r1,r2,rfl,hr⟩,hb6⟩:=rop_prog hpo;have HF:=kp (HP.out r1 r2 w6 (by rw [HE.out];exact hr) (HBw.out.trans (hb6.mono HBw.out.size)));clear hb6 hr hpo;go_wp2_with fail
    exact HF.out
theorem rtable6_any {w:World} {A1 A2 A3:Option Addr} {c1 c2 c3:Nat} {g:Sig} (h:SigAt w A1 c1 A2 c2 A3 c3 g) {A:Option Addr} {t:List Node} {c:Nat} (ht:Lies 8 NodeR w A t) (hn:t.length<=1000000) :
  Calls Tryz.prog 24 #[.agg #[.slice A1 g.sorts.length c1,.slice A2 g.funs.length c2,.slice A3 g.macros.length c3],.agg #[.slice A t.length c]] w fun e w'=>e=.returned (.int .i64 (tableE g t))/\Below w.heap.size w w':=by
 have HE:=kp (show tableE g t=if checkE g≠0\/checkTE t≠0 then 2 else if sortedB g t then 0 else 33 from rfl);have HT:=kp ht;have HCs:=kp (fun W (hW:Below w.heap.size w W)=>rcheck_any (h.on hW));have HCt:=kp (fun W (hW:Below w.heap.size w W)=>rterm_check (c:=c) (ht.on NodeR.lasts hW) hn);have HSt:=kp (fun(hz:checkTE t=0) k n hk=>check_stands hz (k:=k) (n:=n) hk);have HSo:=kp (fun(hg:checkE g=0) W (hW:Below w.heap.size w W) n (hi:NodeI n) (a:Int) (hs:standsN n a=true) (ha:a<=t.length)=>rrule_any (h.on hW) hg c (ht.on NodeR.lasts hW) hi hs ha);have S1:=kp (Bk.keep (Bk.new w (.cells #[.slice A1 g.sorts.length c1,.slice A2 g.funs.length c2,.slice A3 g.macros.length c3] 26)) (.cells #[.slice A t.length c] 29));have T1:=kp (Bk.new (w.alloc (.cells #[.slice A1 g.sorts.length c1,.slice A2 g.funs.length c2,.slice A3 g.macros.length c3] 26)) (.cells #[.slice A t.length c] 29));rw [show(w.alloc (.cells #[.slice A1 g.sorts.length c1,.slice A2 g.funs.length c2,.slice A3 g.macros.length c3] 26)).heap.size=w.heap.size+1 by simp] at T1;have B1:=kp (((brq w).alloc nlq (.cells #[.slice A1 g.sorts.length c1,.slice A2 g.funs.length c2,.slice A3 g.macros.length c3] 26)).alloc (by simp) (.cells #[.slice A t.length c] 29));clear h ht;generalize tableE g t=res at *;have HAll:=kp (fun h=>sortedB_all (g:=g) (t:=t) h);have HStop:=kp (fun k n hn h=>sortedB_stop (g:=g) (t:=t) (k:=k) (n:=n) hn h)
 generalize sortedB g t=sb at *
 go_enter Tryz.func24,Tryz.ntmps24
 go_upto_region 1 with fail
 generalize (w.alloc (.cells #[.slice A1 g.sorts.length c1,.slice A2 g.funs.length c2,.slice A3 g.macros.length c3] 26)).alloc (.cells #[.slice A t.length c] 29)=w1 at *;obtain ⟨s0,s1,s2,sf⟩:=Bk.c3 S1.out;go_wp2_with fail
 refine(HCs.out w1 B1.out).mono ?_;rintro e w2 ⟨rfl,hb2⟩;have B2:=kp (B1.out.trans (hb2.mono B1.out.size));have S2:=kp (Bk.on S1.out hb2);have T2:=kp (Bk.on T1.out hb2);clear hb2 s0 s1 s2 sf S1 T1;generalize checkE g=cg at *
 by_cases hg:cg=0
 ·have hg':(cg != 0)=false:=by simp [hg]
  have HG:=kp hg;clear hg;obtain ⟨t0,tf⟩:=Bk.c1 T2.out;go_wp2_with fail
  refine(HCt.out w2 B2.out).mono ?_;rintro e w3 ⟨rfl,hb3⟩;have B3:=kp (B2.out.trans (hb3.mono B2.out.size));have S3:=kp (Bk.on S2.out hb3);have T3:=kp (Bk.on T2.out hb3);clear hb3 t0 tf S2 T2;generalize checkTE t=ct at *
  by_cases hct:ct=0
  ·have hct':(ct != 0)=false:=by simp [hct]
   replace HE:=kp (HE.out.trans (if_neg (by rw [HG.out,hct];simp)));have HSt2:=kp (HSt.out hct);clear hct HSt;go_wp2_with fail
   go_loopw [5] (fun i' wr=>∃ k:Nat,k<=t.length/\i'=.int .i64 k/\Below w3.heap.size w3 wr/\∀ j n,j < k->t[j]?=some n->sortedN g t n=true) (fun i' _=>t.length - (intOf i').toNat)
   case atStart=>exact⟨0,Nat.zero_le _,rfl,Below.refl _ _,fun j n hj=>by omega⟩
   case round =>
    obtain ⟨k,hk,rfl,hb,hto⟩:=hrel;have HTo:=kp hto;have HB:=kp hb;have HBw:=kp (B3.out.trans (hb.mono B3.out.size));have SR:=kp (Bk.on S3.out hb);have TR:=kp (Bk.on T3.out hb);clear hb hto;obtain ⟨t0,tf⟩:=Bk.c1 TR.out
    by_cases hlt:k < t.length
    ·have hlt2:(k:Int) < (t.length:Int):=by omega
     obtain ⟨n,hn2⟩:∃ n,t[k]?=some n:=⟨_,gqe hlt⟩;obtain ⟨b,o,hA,hxa,hxi⟩:=node_get (HT.out.on NodeR.lasts HBw.out) hn2;subst hA;have HX:=kp hxa
     have HTk:=kp (show sortedN g t n=true->∀ j m,j < k+1->t[j]?=some m->sortedN g t m=true from fun he j m hj hm=>by
      by_cases h:j < k
      ·exact HTo.out j m h hm
      ·obtain rfl:j=k:=by omega
       rw [hn2] at hm;cases hm;exact he)
     have HNk:=kp (fun hf=>HStop.out k n hn2 hf);have HSn2:=kp (fun W hW=>HSo.out HG.out W hW n hxi k (HSt2.out k n hn2) (by omega));unfold nodeV RulePost at HSn2;have HSd:=kp (show sortedN g t n=(decide ((sortProg g t n).2=0) && decide ((sortProg g t n).1=n.sort)) from rfl);clear hn2 hxi hxa;generalize sortedN g t n=sn at *;generalize sortProg g t n=r at *;obtain ⟨r1,r2⟩:=r;have B0:=kp (brq wr).drew;have HBd:=kp HBw.out.drew;have HBe:=kp HB.out.drew;go_wp2_with fail
     clear t0 tf;refine wp_region_held_drew (S:=fun W=>Below wr.heap.size wr W) (by kernel_rfl) (B0.out) (fun hHeld=>?_);refine plz [0,1,2,3,4,5,6] ?_;iterate 7 (refine tnz (v:=?_) ?_ ?_;rotate_left;(focus first | ((intro w hSw;(obtain ⟨s0,s1,s2,sf⟩:=Bk.c3 (Bk.on SR.out hSw);go_simp;try with_reducible rfl));done) | ((intro w hSw;(obtain ⟨t0,tf⟩:=Bk.c1 (Bk.on TR.out hSw);go_simp;try with_reducible rfl));done) | ((intro w hSw;go_simp;try with_reducible rfl);done) | ((intro w hSw;(obtain ⟨hbl,h0,h1,h2,h3,h4,h5,h6,h7⟩:=HX.out.on hSw;go_simp;try with_reducible rfl));done));try simp only [pt])
     refine pzz ?_;refine rd 7 fun K hK=>?_;go_simp
     go_wp2_with (go_at_call 48;refine(HSn2.out _ HBd.out).mono ?_;rintro e W1 ⟨⟨a,er,rfl,hr⟩,hb⟩;have BW:=kp (B0.out.trans (hb.mono B0.out.size));have BF:=kp (HBd.out.trans (hb.mono HBd.out.size));have BR:=kp (HBe.out.trans (hb.mono HBe.out.size));have HRr:=kp hr;clear hb hr)
     refine hK.out _ _ (BW.out) (fun hHeld=>?_);clear hK K;try simp only [pt]
     refine plz [8,9,10,11,12] ?_;iterate 5 (refine tnz (v:=?_) ?_ ?_;rotate_left;(focus (intro w hSw;go_simp;try with_reducible rfl));try simp only [pt])
     refine pzz ?_;refine dnz ?_;clear hHeld;have T1:=kp (Bk.on TR.out BW.out);have X1:=kp (HX.out.on BW.out);clear HSn2 B0 HBd HBe BW;obtain ⟨t0,tf⟩:=Bk.c1 T1.out;obtain ⟨_,x0,x1,x2,x3,x4,x5,x6,x7⟩:=X1.out
     by_cases he:er=0
     ·have he':(er != 0)=false:=by simp [he]
      have HA2:=kp (show r2=0/\a=r1 by
       rcases HRr.out with⟨_,h1,h2⟩ | ⟨h1,_⟩
       ·exact⟨h1,h2⟩
       ·exact absurd he h1)
      by_cases hr1:a=n.sort
      ·have hr1':(a != n.sort)=false:=by simp [hr1]
       have HQ:=kp (HTk.out (by rw [HSd.out,HA2.out.1,← HA2.out.2,hr1];simp));clear he hr1;go_wp2_with fail
       go_roundw
       case rel=>exact⟨k+1,by omega,by go_num,BR.out,HQ.out⟩
       case measure=>simp [intOf];omega
      ·have hr1':(a != n.sort)=true:=by simp [hr1]
       have HQ:=kp (HNk.out (by rw [HSd.out,← HA2.out.2];simp [hr1]));clear he hr1;rw [HQ.out] at HE;go_wp2_with fail
       go_ret;exact⟨ret_int HE.out.symm,BF.out⟩
     ·have he':(er != 0)=true:=by simp [he]
      have HQ:=kp (HNk.out (by
       rw [HSd.out];rcases HRr.out with⟨h1,_⟩ | ⟨_,h2⟩
       ·exact absurd h1 he
       ·simp [h2]))
      clear he;rw [HQ.out] at HE;go_wp2_with fail
      go_ret;exact⟨ret_int HE.out.symm,BF.out⟩
    ·have hke:k=t.length:=by omega
     have HQ:=kp (show sb=true from HAll.out fun j n hj hn=>HTo.out j n (by omega) hn);rw [HQ.out] at HE;clear hke;go_wp2_with fail
     go_ret;exact⟨ret_int HE.out.symm,HBw.out⟩
  ·have hct':(ct != 0)=true:=by simp [hct]
   replace HE:=kp (HE.out.trans (if_pos (.inr hct)));clear hct;go_wp2_with fail
   go_ret;exact⟨ret_int HE.out.symm,B3.out⟩
 ·have hg':(cg != 0)=true:=by simp [hg]
  replace HE:=kp (HE.out.trans (if_pos (.inl hg)));clear hg;go_wp2_with fail
  go_ret;exact⟨ret_int HE.out.symm,B2.out⟩
end El
end Go.Proofs.YtpmdcckapddchaaGreatDoor
