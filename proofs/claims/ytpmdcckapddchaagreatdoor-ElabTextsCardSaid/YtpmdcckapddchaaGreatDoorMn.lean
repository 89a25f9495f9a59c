import Derived.Test.YtpmdcckapddchaaGreatDoorShort
import Derived.Test.YtpmdcckapddchaaGreatDoorMh
import Derived.Test.YtpmdcckapddchaaGreatDoorMm
import Derived.Test.YtpmdcckapddchaaGreatDoorMb
/- merged by wip/merge.py from: RTmTree TabOpen -/
set_option maxRecDepth 100000
set_option maxHeartbeats 51200000
namespace Go.Proofs.YtpmdcckapddchaaGreatDoor
namespace El
open Go.RowKit Dt Sg
def EachPost (w:World) (t:List Node) (e:Ending) (w':World):Prop:=∃ L cl,e=.returned (.slice L t.length cl)/\IRow w.heap.size w' (.slice L t.length cl) (trees t t.length)/\Below w.heap.size w w'
theorem node_arg {w:World} {b o:Nat} {n:Node} (h:NodeAt w b o n) {m:Nat} (hm:m < 3):w.cell? ⟨b,o+2+m,none⟩=some (.int .i64 (n.arg m)):=by
 obtain ⟨_,_,_,a0,a1,a2,_⟩:=h;have hc:m=0\/m=1\/m=2:=by omega
 rcases hc with rfl | rfl | rfl
 ·exact a0
 ·exact a1
 ·exact a2
theorem each_any {w:World} {A:Option Addr} {t:List Node} {c:Nat} (ht:Lies 8 NodeR w A t) (hn:t.length<=1000000) (ha:Ahead t) :
  Calls Tryz.prog 49 #[.agg #[.slice A t.length c],.bool true] w (EachPost w t):=by
 have HT:=kp ht;have HA:=kp ha;have HN:=kp hn;have B1:=kp ((brq w).alloc nlq (.cells #[.slice A t.length c] 29));have T1:=kp (Bk.new w (.cells #[.slice A t.length c] 29));have hn2:(t.length:Int)<=1000000:=by omega
 clear ht ha
 go_enter Tryz.func49,Tryz.ntmps49
 go_wp2_with fail
 generalize w.alloc (.cells #[.slice A t.length c] 29)=w0 at *
 go_loopw [5,6] (fun v i wr=>∃ k:Nat,k<=t.length/\i=.int .i64 k/\IRow w0.heap.size wr v (trees t k)/\Below w0.heap.size w0 wr/\Below w.heap.size w wr) (fun _ i _=>t.length - (intOf i).toNat)
 case atStart=>exact⟨0,Nat.zero_le _,rfl,IRow.nil _ _,Below.refl _ _,B1.out⟩
 case round =>
  obtain ⟨k,hk,rfl,hrow,hb,hbw⟩:=hrel;obtain ⟨Ao,co,hv,hcl,hcmx⟩:=hrow.shape;rw [trees_len] at hv hcl;subst hv;have HB:=kp hb;have HBw:=kp hbw;have HRow:=kp hrow;have HTr:=kp (HT.out.on NodeR.lasts hbw);obtain ⟨t0,tf⟩:=Bk.c1 (Bk.on T1.out hb);clear hrow hb hbw hcmx
  by_cases hlt:k < t.length
  ·have hlt2:(k:Int) < (t.length:Int):=by omega
   obtain ⟨n,hnk⟩:∃ n,t[k]?=some n:=⟨_,gqe hlt⟩;obtain ⟨nb,no,hAt,hna,hni⟩:=node_get HTr.out hnk;have HNa:=kp hna;have HSt:=kp (show treeStep (trees t k) (nodeAt t k)=min (argSum (trees t k) (argsOf n)+1) 1073741824 by rw [nodeAt_get hnk];rfl);have HAh:=kp (fun a hm=>HA.out k n hnk a hm);have HLe:=kp (fun m=>argSum_le t k ((argsOf n).take m));have HL3:=kp (argsOf_len n);have q1:=hni.len.lo;have q2:=hni.len.hi;obtain ⟨_,_,o1,_⟩:=hna;subst hAt;clear hni;go_wp2_with fail
   go_loop [7,8] (fun s j=>∃ m:Nat,m<=(argsOf n).length/\j=.int .i64 m/\s=.int .i64 (argSum (trees t k) ((argsOf n).take m))) (fun _ j=>(argsOf n).length - (intOf j).toNat)
   case atStart=>exact⟨0,Nat.zero_le _,rfl,rfl⟩
   case round =>
    obtain ⟨m,hm,rfl,rfl⟩:=hrel;have hle:=HLe.out m;have hl3:=HL3.out;have hlen:=List.length_take_le m (argsOf n)
    by_cases hml:m < (argsOf n).length
    ·have hm3:(m:Int) < 3:=by omega
     have hmn:(m:Int) < n.len:=by omega
     have hga:=argsOf_get hml;have hah:=HAh.out _ (mgq hga);obtain ⟨a,haj⟩:∃ a:Nat,n.arg m=(a:Int):=⟨(n.arg m).toNat,by omega⟩;have hcell:=node_arg HNa.out (m:=m) (by omega);rw [haj] at hcell hga hah;have hak:a < (trees t k).length:=by rw [trees_len];omega
     obtain ⟨x,hx⟩:∃ x,(trees t k)[a]?=some x:=⟨_,gqe hak⟩;have hxb:=trees_le t k x (mgq hx);obtain ⟨g,rfl,_,_,hrc⟩:=HRow.out.at' (by omega);have hrx:=hrc a x hx
     have HNx:=kp (show argSum (trees t k) ((argsOf n).take (m+1))=argSum (trees t k) ((argsOf n).take m)+x by
      rw [argSum_next hga,show((a:Int)).toNat=a from rfl,List.getD_eq_getElem?_getD,hx]
      rfl)
     have hak2:(a:Int) < (k:Int):=by omega
     have ha0:¬ (a:Int) < 0:=by omega
     have hs3:argSum (trees t k) ((argsOf n).take m)<=3221225472:=by omega
     have hs0:=hle.1;generalize argSum (trees t k) ((argsOf n).take m)=s at *;clear hga hah hx hrc haj hlen hl3 hle;go_wp2_with fail
     go_round
     case rel=>exact⟨m+1,by omega,by go_num,by rw [HNx.out]⟩
     case measure=>simp [intOf];omega
    ·have hmn:¬ ((m:Int) < n.len/\(m:Int) < 3):=by omega
     have hmL:m=(argsOf n).length:=by omega
     rw [hmL,List.take_length] at hle;have hs3:argSum (trees t k) (argsOf n)<=3221225472:=by omega
     have hs0:=hle.1;have HSt2:=kp (show trees t (k+1)=trees t k ++ [min (argSum (trees t k) (argsOf n)+1) 1073741824] by rw [trees_succ,HSt.out]);have HTk:=kp (show argSum (trees t k) ((argsOf n).take m)=argSum (trees t k) (argsOf n) by rw [hmL,List.take_length]);have hz:=B1.out.size;have hzb:=HBw.out.size;have hzc:=HB.out.size;have HLk:=kp (trees_len t k);have hq:(m:Int) < n.len/\¬ (m:Int) < 3\/¬ (m:Int) < n.len:=by omega
     rw [HTk.out];clear hle hlen hl3 hmL hmn hm hml HTk;generalize argSum (trees t k) (argsOf n)=s at *;obtain ⟨u,hu⟩:∃ u,min (s+1) 1073741824=u:=⟨_,rfl⟩;have hu2:(s+1<=1073741824/\u=s+1)\/(¬ s+1<=1073741824/\u=1073741824):=by omega
     rw [hu] at HSt2;have HMin:=kp hu;rcases hq with⟨hq1,hq2⟩ | hq1
     all_goals
      rcases hu2 with⟨hu3,hu4⟩ | ⟨hu3,hu4⟩
      all_goals
       clear hu;subst hu4
       go_wp2_with (at_builtin;refine push_int rfl (.tmp 60) (.tmp 64) rfl HLk.out rfl (HRow.out.below ((Below.refl _ wr).alloc nlq _)) rfl (Bk.new wr _) (by omega) (by simp;omega) ?_)
       intro A9 c9 w9 h9 g9;have HR9:=kp (show IRow w0.heap.size w9 (.slice A9 (k+1) c9) (trees t (k+1)) from by rw [HSt2.out];first | exact h9 | (rw [HMin.out] at h9;exact h9));have HB9:=kp ((HBw.out.alloc hzb (.cells #[.int .i64 _] 3)).grown g9 (by simp;omega) (fun j hj=>Nat.le_trans hz (HRow.out.lt j hj).1));have HB09:=kp (show Below w0.heap.size w0 w9 from(HB.out.alloc HB.out.size (.cells #[.int .i64 _] 3)).grown g9 (by have:=HB.out.size;simp;omega) (fun j hj=>(HRow.out.lt j hj).1));clear h9 g9;go_wp2_with fail
       go_roundw
       case rel=>exact⟨k+1,by omega,by go_num,HR9.out,HB09.out,HB9.out⟩
       case measure=>simp [intOf];omega
  ·obtain rfl:k=t.length:=by omega
   go_wp2_with fail
   go_ret;exact⟨Ao,co,rfl,HRow.out.mono B1.out.size,HBw.out⟩
theorem rtree_any (w:World) (A:Option Addr) (t:List Node) (c:Nat) (ht:Lies 8 NodeR w A t) (hn:t.length<=1000000) (_:t.length<=c) (_:c<=maxLen) (ha:Ahead t) (k:Nat) (hk:k < t.length) :
  Calls Tryz.prog 25 #[.agg #[.slice A t.length c],.int .i64 k] w fun e w'=>e=.returned (.int .i64 (treeN t k))/\Below w.heap.size w w':=by
 have B1:=kp ((brq w).alloc nlq (.cells #[.slice A t.length c] 29));have T1:=kp (Bk.new w (.cells #[.slice A t.length c] 29));have HE:=kp (each_any (c:=c) (ht.on NodeR.lasts B1.out) hn ha);have HN:=kp (treeN_at hk);have HL:=kp (trees_len t t.length);have hk2:(k:Int) < (t.length:Int):=by omega
 clear ht ha;generalize treeN t k=r at *
 go_enter Tryz.func25,Tryz.ntmps25
 go_upto_region 1 with fail
 generalize w.alloc (.cells #[.slice A t.length c] 29)=w1 at *;obtain ⟨t0,tf⟩:=Bk.c1 T1.out;go_wp2_with fail
 refine HE.out.mono ?_;rintro e w2 ⟨L,cl,rfl,hr,hb⟩;have B2:=kp (B1.out.trans (hb.mono B1.out.size));obtain ⟨g,rfl,_,_,hcs⟩:=hr.at' (by rw [HL.out];omega);have hc:=hcs k r HN.out;clear hr hb hcs t0 tf;go_wp2_with fail
 go_ret;exact⟨rfl,B2.out⟩
end El
namespace Dt
open Go.RowKit Go.ChangeShapes Go.WideShapes Go.Deep El
section
variable {H:Type} {enc:TypeId × Value->H}
theorem list8 {α:Type} {l:List α} (h:l.length=8):∃ a b c d e f g i,l=[a,b,c,d,e,f,g,i]:=by
 match l,h with
 | [a,b,c,d,e,f,g,i],_=>exact⟨a,b,c,d,e,f,g,i,rfl⟩
theorem cNode':Tryz.prog.cellsOf 49=8:=by kernel_rfl
theorem bNode':Tryz.prog.bytesOf 49=56:=by kernel_rfl
theorem cLNode:Tryz.prog.cellsOf 27=1:=by kernel_rfl
theorem cTab:Tryz.prog.cellsOf 29=1:=by kernel_rfl
theorem fNode:∃ f0 f1 f2 f3 f4 f5:Field,Tryz.prog.underlying 49=some (.struct #[f0,f1,f2,f3,f4,f5])/\f0.offset=0/\f1.offset=1/\f2.offset=2/\f3.offset=5/\f4.offset=6/\f5.offset=7/\f0.type=37/\f1.type=37/\f2.type=47/\f3.type=3/\f4.type=3/\f5.type=3 :=
 ⟨_,_,_,_,_,_,Tryz.underlying49,rfl,rfl,rfl,rfl,rfl,rfl,rfl,rfl,rfl,rfl,rfl,rfl⟩
theorem opens_node (fuel:Nat):Opens H enc Tryz.prog 49 NodeR fuel:=by
 intro W cs y h hf;obtain ⟨f0,f1,f2,f3,f4,f5,hu,o0,o1,o2,o3,o4,o5,t0,t1,t2,t3,t4,t5⟩:=fNode;have hlen:=struct_len hu h;rw [cNode'] at hlen;obtain ⟨a,b,c,d,e,f,g,i,rfl⟩:=list8 hlen;obtain ⟨op,h0⟩:=field_of hu h hf 0 f0 rfl (fun fu _=>by rw [t0];exact opens_int Tryz.underlying37 fu);rw [o0,t0,cI8] at h0;obtain ⟨ln,h1⟩:=field_of hu h hf 1 f1 rfl (fun fu _=>by rw [t1];exact opens_int Tryz.underlying37 fu);rw [o1,t1,cI8] at h1;obtain ⟨⟨x0,x1,x2⟩,hx⟩:=field_of hu h hf 2 f2 rfl (fun fu _=>by rw [t2];exact opens_a3 fu);rw [o2,t2,cA3] at hx;obtain ⟨so,h3⟩:=field_of hu h hf 3 f3 rfl (fun fu _=>by rw [t3];exact opens_int Tryz.underlying3 fu);rw [o3,t3,cI] at h3;obtain ⟨fn,h4⟩:=field_of hu h hf 4 f4 rfl (fun fu _=>by rw [t4];exact opens_int Tryz.underlying3 fu);rw [o4,t4,cI] at h4;obtain ⟨n,h5⟩:=field_of hu h hf 5 f5 rfl (fun fu _=>by rw [t5];exact opens_int Tryz.underlying3 fu);rw [o5,t5,cI] at h5;obtain ⟨e0,w0⟩:=h0;obtain ⟨e1,w1⟩:=h1;obtain ⟨e2,w2,w3,w4⟩:=hx;obtain ⟨e3,w5⟩:=h3.i64;obtain ⟨e4,w6⟩:=h4.i64;obtain ⟨e5,w7⟩:=h5.i64;simp at e0 e1 e2 e3 e4 e5;obtain ⟨ea,eb,ec⟩:=e2;subst e0 e1 ea eb ec e3 e4 e5;exact⟨⟨op,ln,x0,x1,x2,so,fn,n⟩,rfl,⟨w0,w1,w2,w3,w4,w5,w6,w7⟩⟩
theorem fTab:∃ f0:Field,Tryz.prog.underlying 29=some (.struct #[f0])/\f0.offset=0/\f0.type=27:=⟨_,Tryz.underlying29,rfl,rfl⟩
theorem open_tab {W:World} {base:Nat} {v:Value} {d:DataW H} {ps:List MemPlace} (hval:Value.okWide Tryz.prog W .any base 29 v) (h:DataW.Trod enc Tryz.prog W 0 (fun _=>true) true 29 v d ps) (hf:Fits Tryz.prog 29 d) :
  ∃ (t:List El.Node) (A:Option Addr) (c:Nat),v=.agg #[.slice A t.length c]/\Lies 8 NodeR W A t/\t.length<=c/\c<=maxLen:=by
 obtain ⟨f0,hu,o0,t0⟩:=fTab;obtain ⟨cs,rfl,hsz⟩:=okWide_struct hu hval;obtain ⟨fuel,ht⟩:=h;have hlen:=struct_len hu ht;rw [cTab] at hlen;obtain ⟨t,ht2⟩:=field_of hu ht hf 0 f0 rfl (fun fu _=>by rw [t0];exact opens_slice Tryz.underlying27 cNode' bNode' (by omega) (fun fu' _=>opens_node fu'));rw [o0,t0,cLNode] at ht2;obtain ⟨A,c,e,hl,h1,h2,_⟩:=ht2;refine⟨t,A,c,?_,hl,h1,h2⟩
 congr 1
 have hcs:cs.toList=[.slice A t.length c]:=by
  have h3:(cs.toList.drop 0).take 1=cs.toList:=by
   rw [List.drop_zero,List.take_of_length_le];have:cs.toList.length=1:=hlen
   omega
  rw [← h3];exact e
 exact Array.toList_inj.1 hcs
end
end Dt
end Go.Proofs.YtpmdcckapddchaaGreatDoor
