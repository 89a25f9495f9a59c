import Derived.Test.YtpmdcckapddchaaGreatDoorShort
import Derived.Test.YtpmdcckapddchaaGreatDoorMn
import Derived.Test.YtpmdcckapddchaaGreatDoorMp
import Derived.Test.YtpmdcckapddchaaGreatDoorMb
/- merged by wip/merge.py from: TmCheck TmPut RTmStands RTmCheck -/
set_option maxRecDepth 100000
set_option maxHeartbeats 51200000
namespace Go.Proofs.YtpmdcckapddchaaGreatDoor
namespace El
open Go.RowKit Go.Maps Dt Sg
def checkTE (t:List Node):Int:=if checkT t then 0 else 2
theorem standsTo_succ {t:List Node} {k:Nat} {n:Node} (h:t[k]?=some n):standsTo t (k+1)=(standsTo t k && standsN n k):=by
 unfold standsTo;rw [List.range_succ,List.all_append];simp [h]
theorem standsTo_stop {t:List Node} {k:Nat} {n:Node} (h:t[k]?=some n) (hs:standsN n k=false):standsTo t t.length=false:=by
 unfold standsTo;rw [List.all_eq_false];exact⟨k,List.mem_range.2 (gqs h).1,by rw [h];simp [hs]⟩
theorem tcheck_any {w:World} {A:Option Addr} {c:Nat} {t:List Node} (h:Lies 8 NodeR w A t) (hl:t.length<=1000000) (hc:t.length<=c) (hcm:c<=maxLen) :
  Calls Tryz.prog 36 #[.agg #[.slice A t.length c]] w fun e w'=>e=.returned (.int .i64 (checkTE t))/\Below w.heap.size w w':=by
 have HC:=kp (show checkTE t=if(decide (t.take 2=newT) && standsTo t t.length && decide t.Nodup) then 0 else 2 from rfl);have HL:=kp h;have TB:=kp (Bk.new w (.cells #[.slice A t.length c] 29));have B1:=kp ((brq w).alloc nlq (.cells #[.slice A t.length c] 29));unfold maxLen at hcm;clear h;generalize checkTE t=ce at *
 go_enter Tryz.func36,Tryz.ntmps36
 go_upto_region 1 with fail
 generalize w.alloc (.cells #[.slice A t.length c] 29)=w1 at *;have B0:=kp (brq w1).drew
 by_cases h2:t.length < 2
 ·have h2':(t.length:Int) < 2:=by omega
  have HR:=kp (show ce=2 by
   rw [HC.out];have:¬ t.take 2=newT:=fun e=>by have:=congrArg List.length e;rw [List.length_take] at this;simp [newT] at this;omega
   rw [dfq this];rfl)
  go_wp2_with fail
  refine wp_region_held_drew (S:=fun W=>W.heap[w.heap.size]?=some (.cells #[.slice A t.length c] 29 (0,0))) (by kernel_rfl) (TB.out) (fun hHeld=>?_);refine plz [0,1,2,3,4] ?_;iterate 5 (refine tnz (v:=?_) ?_ ?_;rotate_left;(focus first | ((intro w hSw;go_simp;try with_reducible rfl);done) | ((intro w hSw;(obtain ⟨h0,hf⟩:=Bk.c1 hSw;go_simp;try with_reducible rfl));done));try simp only [pt])
  refine pzz ?_;refine sk 5 ?_;try simp only [pt]
  refine sk 6 ?_;try simp only [pt]
  refine sk 7 ?_;try simp only [pt]
  refine sk 8 ?_;try simp only [pt]
  refine sk 9 ?_;try simp only [pt]
  refine sk 10 ?_;try simp only [pt]
  refine sk 11 ?_;try simp only [pt]
  refine tk 12 (v:=?_) ?_ ?_;rotate_left
  ·(intro w hSw;go_simp;try with_reducible rfl)
  try simp only [pt]
  refine dnz ?_;clear hHeld;go_wp2_with fail
  go_ret;exact⟨ret_int HR.out.symm,B1.out.trans (B0.out.mono B1.out.size)⟩
 ·have h2':decide ((t.length:Int) < 2)=false:=dfq (by omega);have h2n:2<=t.length:=by omega
  have h2c:(2:Int)<=(c:Int):=by omega
  obtain ⟨b,o,rfl,hat0,_⟩:=node_get HL.out (gqe (show 0 < t.length by omega));clear hat0;go_wp2_with fail
  refine wp_region_held_drew (S:=fun W=>Below w1.heap.size w1 W) (by kernel_rfl) (B0.out) (fun hHeld=>?_);refine plz [0,1,2,3,4,5,6,7] ?_;iterate 8 (refine tnz (v:=?_) ?_ ?_;rotate_left;(focus first | ((intro w hSw;go_simp;try with_reducible rfl);done) | ((intro w hSw;(obtain ⟨h0,hf⟩:=Bk.c1 (Bk.on TB.out hSw);go_simp;try with_reducible rfl));done));try simp only [pt])
  refine pzz ?_;refine rd 8 fun K hK=>?_;go_simp
  go_wp2_with (go_at_call 12;refine(tnew_any _).mono ?_;rintro e W1 ⟨g,rfl,hg,hgb,hb⟩;have B2:=kp (B0.out.trans (hb.mono B0.out.size));have NB:=kp hgb;clear hb hg hgb)
  refine hK.out _ _ (B2.out) (fun hHeld=>?_);clear hK K;try simp only [pt]
  have hfield:∀ W,(Instr.field 29 (.agg #[.slice (some ⟨g,0,none⟩) 2 2]) 0).run Tryz.prog W=.ok (.slice (some ⟨g,0,none⟩) 2 2) W:=fun W=>by kernel_rfl
  refine tk 9 (v:=?_) ?_ ?_;rotate_left
  ·(intro w hSw;go_simp;try with_reducible rfl)
  try simp only [pt]
  clear hfield;have HE:=kp (eqNodes_any (A:=some ⟨b,o,none⟩) (B:=some ⟨g,0,none⟩) (xs:=t.take 2) (ys:=newT) c 2 ((HL.out.on NodeR.lasts (B1.out.trans (B2.out.mono B1.out.size))).take 2) (new_lies NB.out) (by rw [List.length_take];omega));rw [show(t.take 2).length=2 by rw [List.length_take];omega,show newT.length=2 from rfl] at HE;refine rd 10 fun K hK=>?_;go_simp
  go_wp2_with (go_at_call 33;refine HE.out.mono ?_;rintro e W2 ⟨rfl,hb⟩;have B3:=kp (B2.out.trans (hb.mono B2.out.size));clear hb)
  refine hK.out _ _ (B3.out) (fun hHeld=>?_);clear hK K;try simp only [pt]
  cases hq:decide (t.take 2=newT) with
  | false =>
   have HR:=kp (show ce=2 by rw [HC.out,hq];rfl);refine plz [11,12] ?_;iterate 2 (refine tnz (v:=?_) ?_ ?_;rotate_left;(focus (intro w hSw;go_simp;try with_reducible rfl));try simp only [pt])
   refine pzz ?_;refine dnz ?_;clear hHeld;go_wp2_with fail
   go_ret;exact⟨ret_int HR.out.symm,B1.out.trans (B3.out.mono B1.out.size)⟩
  | true =>
   replace HC:=kp (show ce=if(standsTo t t.length && decide t.Nodup) then 0 else 2 by rw [HC.out,hq];rfl);refine plz [11,12] ?_;iterate 2 (refine tnz (v:=?_) ?_ ?_;rotate_left;(focus (intro w hSw;go_simp;try with_reducible rfl));try simp only [pt])
   refine pzz ?_;refine dnz ?_;clear hHeld hq HE NB;have BW:=kp (B1.out.trans (B3.out.mono B1.out.size));have TW:=kp (Bk.on TB.out B3.out);obtain ⟨q0,qf⟩:=Bk.c1 TW.out;go_wp2_with fail
   clear q0 qf
   go_loopw [22] (fun v wr=>∃ k:Nat,k<=t.length/\v=.int .i64 k/\standsTo t k=true/\Below W2.heap.size W2 wr) (fun v _=>t.length - (intOf v).toNat)
   case atStart=>exact⟨0,Nat.zero_le _,rfl,rfl,Below.refl _ _⟩
   case round =>
    obtain ⟨k,hk,rfl,hto,hb⟩:=hrel;have HTo:=kp hto;have HB:=kp hb;have HBW:=kp (BW.out.trans (hb.mono BW.out.size));have TBr:=kp (Bk.on TW.out hb);clear hto hb;obtain ⟨q0,qf⟩:=Bk.c1 TBr.out
    by_cases hlt:k < t.length
    ·have hlt2:(k:Int) < (t.length:Int):=by omega
     obtain ⟨n,hn⟩:∃ n,t[k]?=some n:=⟨_,gqe hlt⟩;obtain ⟨b',o',hA,hat,hi⟩:=node_get (HL.out.on NodeR.lasts HBW.out) hn;obtain ⟨rfl,rfl⟩:=aiq hA;have HS:=kp (stands_any hat hi (k:Int));have HSu:=kp (standsTo_succ hn);have HSt:=kp (fun hs=>standsTo_stop hn hs);clear hat hi hn
     cases hst:standsN n k with
     | true =>
      rw [hst] at HS;have HQ:=kp (show standsTo t (k+1)=true by rw [HSu.out,HTo.out,hst];rfl);clear hst;go_wp2_with fail
      refine HS.out.mono ?_;rintro e w5 ⟨rfl,hb5⟩;have HB5:=kp (HB.out.trans (hb5.mono HB.out.size));clear hb5 q0 qf;go_wp2_with fail
      go_roundw
      case rel=>exact⟨k+1,by omega,by go_num,HQ.out,HB5.out⟩
      case measure=>simp [intOf];omega
     | false =>
      have HR:=kp (show ce=2 by rw [HC.out,HSt.out hst];rfl);rw [hst] at HS;clear hst;go_wp2_with fail
      refine HS.out.mono ?_;rintro e w5 ⟨rfl,hb5⟩;have HB5:=kp (HBW.out.trans (hb5.mono HBW.out.size));clear hb5 q0 qf;go_wp2_with fail
      go_ret;exact⟨ret_int HR.out.symm,HB5.out⟩
    ·obtain rfl:k=t.length:=by omega
     have HPl:=kp (places_any (c:=c) (HL.out.on NodeR.lasts HBW.out) (by omega));unfold PlacesPost at HPl;replace HC:=kp (show ce=if decide t.Nodup then 0 else 2 by rw [HC.out,HTo.out];rfl);generalize decide t.Nodup=nd at *;go_wp2_with fail
     refine HPl.out.mono ?_;rintro e w5 ⟨bm,rfl,hm,hb5,hbm⟩;have HB5:=kp (HBW.out.trans (hb5.mono HBW.out.size));clear hb5 q0 qf hm hbm
     cases nd with
     | true =>
      go_wp2_with fail
      go_ret;exact⟨ret_int (by rw [HC.out];rfl),HB5.out⟩
     | false =>
      go_wp2_with fail
      go_ret;exact⟨ret_int (by rw [HC.out];rfl),HB5.out⟩
theorem last_some {t:List Node} {x:Node} {v:Value}:∀ {k:Nat},lastTo t k x=some v->∃ j:Nat,v=.int .i64 (j:Int)/\j < k/\t[j]?=some x
 | 0,h=>by simp [lastTo] at h
 | k+1,h=>by
  unfold lastTo at h
  cases hn:t[k]? with
  | none=>rw [hn] at h;obtain ⟨j,h1,h2,h3⟩:=last_some h;exact⟨j,h1,by omega,h3⟩
  | some n =>
   rw [hn] at h;simp only at h
   split at h
   ·rename_i e;cases h;exact⟨k,rfl,by omega,by rw [hn,e]⟩
   ·obtain ⟨j,h1,h2,h3⟩:=last_some h;exact⟨j,h1,by omega,h3⟩
theorem last_at {t:List Node} {x:Node} (hd:t.Nodup):(lastTo t t.length x).getD (.int .i64 0)=(if x ∈ t then Value.int .i64 (t.findIdx (fun y=>decide (y=x)):Nat) else .int .i64 0)/\(lastTo t t.length x).isSome=decide (x ∈ t):=by
 have hm:=last_mem (t:=t) (x:=x) (k:=t.length) nlq;rw [List.take_length] at hm
 cases hl:lastTo t t.length x with
 | none =>
  rw [hl] at hm;have hx:x ∉ t:=fun h=>by have:=hm.2 h;cases this
  rw [if_neg hx,dfq hx];exact⟨rfl,rfl⟩
 | some v =>
  rw [hl] at hm;have hx:x ∈ t:=hm.1 rfl;rw [if_pos hx,decide_eq_true hx];obtain ⟨j,rfl,hj,hjx⟩:=last_some hl;refine⟨?_,rfl⟩;have hf:t.findIdx (fun y=>decide (y=x)) < t.length:=List.findIdx_lt_length_of_exists ⟨x,hx,by simp⟩;have h1:t[t.findIdx (fun y=>decide (y=x))]=x:=by have:=List.findIdx_getElem (w:=hf);simpa using this
  have h2:t[j]'hj=x:=(gqs hjx).2;have:j=t.findIdx (fun y=>decide (y=x)):=(List.getElem_inj (h₀:=hj) (h₁:=hf) hd).1 (by rw [h1,h2]);show Value.int .i64 (j:Int)=_;rw [this]
def TPutPost (w:World) (t:List Node) (A:Option Addr) (c:Nat) (r:List Node × Int × Int) (e:Ending) (w':World):Prop :=
 ∃ A' c',e=.returned (.tuple #[.agg #[.slice A' r.1.length c'],.int .i64 r.2.1,.int .i64 r.2.2])/\(r.1.length<=c'/\c'<=maxLen)/\Below w.heap.size w w'/\((A'=A/\c'=c/\r.1=t)\/(∀ W',Keeps (fun b=>b < w.heap.size) w' W'->Lies 8 NodeR W' A' r.1))
theorem tput_ret {f:Func} {w:World} {b:Nat} {r0:Value} {i j:Int} {act:Act} {t:TypeId} {R:Ending->World->Prop} (hf:f.results=#[.cell 6 29,.tmp 7,.tmp 8]) (hb:w.heap[b]?=some (.cells #[r0] t (0,0))) (h2:act.tmps[6]?=some (.pointer (some ⟨b,0,none⟩))) (h3:act.tmps[7]?=some (.int .i64 i)) (h4:act.tmps[8]?=some (.int .i64 j)) (hd:act.defers=[]) (hR:R (.returned (.tuple #[.agg #[r0],.int .i64 i,.int .i64 j])) w) :
  bodyPost Tryz.prog f R .ret act w:=by
 obtain ⟨y0,_⟩:=Bk.c1 hb;refine bodyPost_ret (v:=.tuple #[.agg #[r0],.int .i64 i,.int .i64 j]) ?_ hd hR;simp [results,hf,go_sem,y0,h2,h3,h4]
theorem info_node:(Tryz.prog.info? 49).map (fun i=>(i.zero,i.size,i.bytes))=some (some (.agg #[.int .i8 0,.int .i8 0,.int .i64 0,.int .i64 0,.int .i64 0,.int .i64 0,.int .i64 0,.int .i64 0]),8,56):=by kernel_rfl
theorem zero_int' (w:World):(zeroValue 3).run Tryz.prog w=.ok (.int .i64 0) w:=by kernel_rfl
theorem tput_any {w:World} {A:Option Addr} {c:Nat} {t:List Node} {n:Node} {most:Int} (h:Lies 8 NodeR w A t) (hi:NodeI n) (hl:t.length<=1000000) (hc:t.length<=c) (hcm:c<=maxLen) (hm:I64 most) :
  Calls Tryz.prog 139 #[.agg #[.slice A t.length c],.agg #[.int .i8 n.op,.int .i8 n.len,.int .i64 n.a0,.int .i64 n.a1,.int .i64 n.a2,.int .i64 n.sort,.int .i64 n.fn,.int .i64 n.n],.int .i64 most] w (TPutPost w t A c (putT t n most)):=by
 have HL:=kp h;have HI:=kp hi;have TB:=kp (Bk.keep (Bk.keep (Bk.new w (.cells #[.slice A t.length c] 29)) (.cells #[.int .i8 n.op,.int .i8 n.len,.int .i64 n.a0,.int .i64 n.a1,.int .i64 n.a2,.int .i64 n.sort,.int .i64 n.fn,.int .i64 n.n] 49)) (.cells #[.slice none 0 0] 29))
 have NB:=kp (show(((w.alloc (.cells #[.slice A t.length c] 29)).alloc (.cells #[.int .i8 n.op,.int .i8 n.len,.int .i64 n.a0,.int .i64 n.a1,.int .i64 n.a2,.int .i64 n.sort,.int .i64 n.fn,.int .i64 n.n] 49)).alloc (.cells #[.slice none 0 0] 29)).heap[w.heap.size+1]?=some (.cells #[.int .i8 n.op,.int .i8 n.len,.int .i64 n.a0,.int .i64 n.a1,.int .i64 n.a2,.int .i64 n.sort,.int .i64 n.fn,.int .i64 n.n] 49 (0,0)) by
  have h:=Bk.keep (Bk.new (w.alloc (.cells #[.slice A t.length c] 29)) (.cells #[.int .i8 n.op,.int .i8 n.len,.int .i64 n.a0,.int .i64 n.a1,.int .i64 n.a2,.int .i64 n.sort,.int .i64 n.fn,.int .i64 n.n] 49)) (.cells #[.slice none 0 0] 29)
  rwa [show(w.alloc (.cells #[.slice A t.length c] 29)).heap.size=w.heap.size+1 by simp] at h)
 have RB:=kp (show(((w.alloc (.cells #[.slice A t.length c] 29)).alloc (.cells #[.int .i8 n.op,.int .i8 n.len,.int .i64 n.a0,.int .i64 n.a1,.int .i64 n.a2,.int .i64 n.sort,.int .i64 n.fn,.int .i64 n.n] 49)).alloc (.cells #[.slice none 0 0] 29)).heap[w.heap.size+2]?=some (.cells #[.slice none 0 0] 29 (0,0)) by
  have h:=Bk.new ((w.alloc (.cells #[.slice A t.length c] 29)).alloc (.cells #[.int .i8 n.op,.int .i8 n.len,.int .i64 n.a0,.int .i64 n.a1,.int .i64 n.a2,.int .i64 n.sort,.int .i64 n.fn,.int .i64 n.n] 49)) (.cells #[.slice none 0 0] 29)
  rwa [show((w.alloc (.cells #[.slice A t.length c] 29)).alloc (.cells #[.int .i8 n.op,.int .i8 n.len,.int .i64 n.a0,.int .i64 n.a1,.int .i64 n.a2,.int .i64 n.sort,.int .i64 n.fn,.int .i64 n.n] 49)).heap.size=w.heap.size+2 by simp] at h)
 have B1:=kp ((((brq w).alloc nlq (.cells #[.slice A t.length c] 29)).alloc (by simp) (.cells #[.int .i8 n.op,.int .i8 n.len,.int .i64 n.a0,.int .i64 n.a1,.int .i64 n.a2,.int .i64 n.sort,.int .i64 n.fn,.int .i64 n.n] 49)).alloc (by simp;omega) (.cells #[.slice none 0 0] 29));have HPt:=kp (show putT t n most=if checkT t && standsN n t.length then(if n ∈ t then((t,((t.findIdx (fun x=>decide (x=n)):Nat):Int),0):List Node × Int × Int) else if most<=t.length then([],0,40) else(t ++ [n],(t.length:Int),0)) else([],0,2) from rfl);have HM:=kp hm;have HCc:=kp (And.intro hc hcm)
 have HBad:=kp (fun(W:World) (er:Int) (hW:Below w.heap.size w W) (hr:putT t n most=([],0,er))=>show TPutPost w t A c (putT t n most) (.returned (.tuple #[.agg #[.slice none 0 0],.int .i64 0,.int .i64 er])) W by
  rw [hr];exact⟨none,0,rfl,⟨nlq,Nat.zero_le _⟩,hW,.inr fun W' _=>.inl rfl⟩)
 obtain ⟨i0,hi0,z0,z1,z2⟩:=info_parts info_node;have I0:=kp hi0;have I1:=kp z0;have I2:=kp z1;have I3:=kp z2;clear hi0 z0 z1 z2 h hi hm hc hcm
 go_enter Tryz.func139,Tryz.ntmps139
 go_upto_region 1 with fail
 generalize ((w.alloc (.cells #[.slice A t.length c] 29)).alloc (.cells #[.int .i8 n.op,.int .i8 n.len,.int .i64 n.a0,.int .i64 n.a1,.int .i64 n.a2,.int .i64 n.sort,.int .i64 n.fn,.int .i64 n.n] 49)).alloc (.cells #[.slice none 0 0] 29)=w1 at *;have HCk:=kp (fun W (hW:Below w.heap.size w W)=>tcheck_any (HL.out.on NodeR.lasts hW) hl HCc.out.1 HCc.out.2);obtain ⟨q0,qf⟩:=Bk.c1 TB.out;go_wp2_with fail
 refine(HCk.out w1 B1.out).mono ?_;rintro e w2 ⟨rfl,hb2⟩;have B2:=kp (B1.out.trans (hb2.mono B1.out.size));have T2:=kp (Bk.on TB.out hb2);have N2:=kp (Bk.on NB.out hb2);have R2:=kp (Bk.on RB.out hb2);have HCe:=kp (show checkTE t=if checkT t then 0 else 2 from rfl);clear hb2 q0 qf TB NB RB B1
 cases hck:checkT t with
 | false =>
  have HE:=kp (show checkTE t=2 by rw [HCe.out,hck];rfl);have HR:=kp (show putT t n most=([],0,2) by rw [HPt.out,hck];rfl);rw [HE.out];clear hck;obtain ⟨r0,rf⟩:=Bk.c1 R2.out;go_wp2_with fail
  refine tput_ret (w:=w2.setCell ⟨w.heap.size+2,0,none⟩ (.slice none 0 0)) Tryz.results139 (Bk.set_at R2.out 0 _) rfl rfl rfl rfl (HBad.out _ 2 (B2.out.setCell (p:=⟨w.heap.size+2,0,none⟩) (by show w.heap.size<=w.heap.size+2;omega) _) HR.out)
 | true =>
  have HE:=kp (show checkTE t=0 by rw [HCe.out,hck];rfl);rw [HE.out]
  have HNd:=kp (show t.Nodup by
   have:=hck;unfold checkT at this;simp only [Bool.and_eq_true,decide_eq_true_eq] at this;exact this.2)
  have HCk:=kp hck;clear hck HE HCe;have HSt:=kp (stands_any (node_block (n:=n) N2.out) HI.out (t.length:Int));obtain ⟨q0,qf⟩:=Bk.c1 T2.out
  cases hst:standsN n t.length with
  | false =>
   have HR:=kp (show putT t n most=([],0,2) by rw [HPt.out,HCk.out,hst];rfl);rw [hst] at HSt;clear hst;go_wp2_with fail
   refine HSt.out.mono ?_;rintro e w3 ⟨rfl,hb3⟩;have B3:=kp (B2.out.trans (hb3.mono B2.out.size));have R3:=kp (Bk.on R2.out hb3);clear hb3 q0 qf;obtain ⟨r0,rf⟩:=Bk.c1 R3.out;go_wp2_with fail
   refine tput_ret (w:=w3.setCell ⟨w.heap.size+2,0,none⟩ (.slice none 0 0)) Tryz.results139 (Bk.set_at R3.out 0 _) rfl rfl rfl rfl (HBad.out _ 2 (B3.out.setCell (p:=⟨w.heap.size+2,0,none⟩) (by show w.heap.size<=w.heap.size+2;omega) _) HR.out)
  | true =>
   replace HPt:=kp (show putT t n most=(if n ∈ t then((t,((t.findIdx (fun x=>decide (x=n)):Nat):Int),0):List Node × Int × Int) else if most<=t.length then([],0,40) else(t ++ [n],(t.length:Int),0)) by rw [HPt.out,HCk.out,hst];rfl);rw [hst] at HSt;clear hst;go_wp2_with fail
   refine HSt.out.mono ?_;rintro e w3 ⟨rfl,hb3⟩;have B3:=kp (B2.out.trans (hb3.mono B2.out.size));have T3:=kp (Bk.on T2.out hb3);have N3:=kp (Bk.on N2.out hb3);have R3:=kp (Bk.on R2.out hb3);clear hb3 q0 qf;obtain ⟨q0,qf⟩:=Bk.c1 T3.out;have HPl:=kp (places_any (c:=c) (HL.out.on NodeR.lasts B3.out) (by omega));unfold PlacesPost at HPl;go_wp2_with fail
   refine HPl.out.mono ?_;rintro e w4 ⟨bm,rfl,hm4,hb4,hbm⟩;have B4:=kp (B3.out.trans (hb4.mono B3.out.size));have T4:=kp (Bk.on T3.out hb4);have N4:=kp (Bk.on N3.out hb4);have R4:=kp (Bk.on R3.out hb4);have HM4:=kp hm4.plain;clear hb4 q0 qf hm4 hbm HPl HSt;obtain ⟨kl,hkl⟩:=keyOf_node HI.out;obtain ⟨hla,hlb⟩:=last_at (x:=n) HNd.out;have hlook:=HM4.out.look (a:=n) node_key Tryz.underlying138 (zero_int' w4) hkl;rw [hla,hlb] at hlook;unfold nodeV at hlook;clear hla hlb hkl;obtain ⟨h0,h1,h2,h3,h4,h5,h6,h7,hf⟩:=Bk.c8 N4.out
   by_cases hin:n ∈ t
   ·have HR:=kp (show putT t n most=(t,((t.findIdx (fun x=>decide (x=n)):Nat):Int),0) by rw [HPt.out,if_pos hin]);rw [if_pos hin,decide_eq_true hin] at hlook;clear hin HPt;generalize t.findIdx (fun x=>decide (x=n))=ix at *;obtain ⟨q0,qf⟩:=Bk.c1 T4.out;obtain ⟨r0,rf⟩:=Bk.c1 R4.out;go_wp2_with fail
    refine tput_ret (w:=w4.setCell ⟨w.heap.size+2,0,none⟩ (.slice A t.length c)) Tryz.results139 (Bk.set_at R4.out 0 _) rfl rfl rfl rfl ?_;rw [HR.out];exact⟨A,c,rfl,HCc.out,B4.out.setCell (p:=⟨w.heap.size+2,0,none⟩) (by show w.heap.size<=w.heap.size+2;omega) _,.inl ⟨rfl,rfl,rfl⟩⟩
   ·rw [if_neg hin,dfq hin] at hlook;replace HPt:=kp (show putT t n most=(if most<=t.length then([],0,40) else(t ++ [n],(t.length:Int),0)) by rw [HPt.out,if_neg hin]);clear hin;obtain ⟨q0,qf⟩:=Bk.c1 T4.out
    by_cases hmo:most<=(t.length:Int)
    ·have HR:=kp (show putT t n most=([],0,40) by rw [HPt.out,if_pos hmo]);obtain ⟨r0,rf⟩:=Bk.c1 R4.out;go_wp2_with fail
     refine tput_ret (w:=w4.setCell ⟨w.heap.size+2,0,none⟩ (.slice none 0 0)) Tryz.results139 (Bk.set_at R4.out 0 _) rfl rfl rfl rfl (HBad.out _ 40 (B4.out.setCell (p:=⟨w.heap.size+2,0,none⟩) (by show w.heap.size<=w.heap.size+2;omega) _) HR.out)
    ·have HR:=kp (show putT t n most=(t ++ [n],(t.length:Int),0) by rw [HPt.out,if_neg hmo]);have hmo':=dfq hmo
     have h2n:2<=t.length:=by
      have:=HCk.out;unfold checkT at this;simp only [Bool.and_eq_true,decide_eq_true_eq] at this;have:=congrArg List.length this.1.1;rw [List.length_take] at this;simp [newT] at this
      omega
     obtain ⟨b,o,rfl,hat0,_⟩:=node_get HL.out (gqe (show 0 < t.length by omega));clear hat0 HPt;go_upto_region 10 with fail
     clear hlook h0 h1 h2 h3 h4 h5 h6 h7 hf q0 qf;have B5:=kp (((brq w4).alloc nlq (.cells #[.int .i8 n.op,.int .i8 n.len,.int .i64 n.a0,.int .i64 n.a1,.int .i64 n.a2,.int .i64 n.sort,.int .i64 n.fn,.int .i64 n.n] 49)).drew);have NN5:=kp (show(w4.alloc (.cells #[.int .i8 n.op,.int .i8 n.len,.int .i64 n.a0,.int .i64 n.a1,.int .i64 n.a2,.int .i64 n.sort,.int .i64 n.fn,.int .i64 n.n] 49)).drew.heap[w4.heap.size]?=_ from Bk.new w4 (.cells #[.int .i8 n.op,.int .i8 n.len,.int .i64 n.a0,.int .i64 n.a1,.int .i64 n.a2,.int .i64 n.sort,.int .i64 n.fn,.int .i64 n.n] 49));have T5:=kp (Bk.on T4.out B5.out);have N5:=kp (Bk.on N4.out B5.out);have R5:=kp (Bk.on R4.out B5.out);have BW5:=kp (B4.out.trans (B5.out.mono B4.out.size));have HCells:=kp (lies_cells (val:=nodeL) (fun vs x h=>h.1) (HL.out.on NodeR.lasts BW5.out));have hcl:(t.length:Int)<=(c:Int):=by have:=HCc.out.1;omega
     have h9:=HCc.out;go_wp2_with fail
     refine wp_region_held_drew (S:=fun W=>W.heap[w.heap.size]?=some (.cells #[.slice (some ⟨b,o,none⟩) t.length c] 29 (0,0))/\W.heap[w.heap.size+1]?=some (.cells #[.int .i8 n.op,.int .i8 n.len,.int .i64 n.a0,.int .i64 n.a1,.int .i64 n.a2,.int .i64 n.sort,.int .i64 n.fn,.int .i64 n.n] 49 (0,0))) (by kernel_rfl) (⟨T4.out,N4.out⟩) (fun hHeld=>?_);refine plz [0,1,2,3,4,5,9] ?_;iterate 7 (refine tnz (v:=?_) ?_ ?_;rotate_left;(focus first | ((intro w hSw;go_simp;try with_reducible rfl);done) | ((intro w hSw;(obtain ⟨h0,hf⟩:=Bk.c1 hSw.1;go_simp;try with_reducible rfl));done) | ((intro w hSw;(obtain ⟨h0,h1,h2,h3,h4,h5,h6,h7,hf⟩:=Bk.c8 hSw.2;go_simp;try with_reducible rfl));done));try simp only [pt])
     refine pzz ?_;refine rd 6 fun K hK=>?_;go_simp;refine hK.out _ _ (⟨T5.out,N5.out⟩) (fun hHeld=>?_);clear hK K;try simp only [pt]
     have hz5:(w4.alloc (.cells #[.int .i8 n.op,.int .i8 n.len,.int .i64 n.a0,.int .i64 n.a1,.int .i64 n.a2,.int .i64 n.sort,.int .i64 n.fn,.int .i64 n.n] 49)).drew.heap.size=w4.heap.size+1:=by simp
     have HZ5:=kp hz5;clear hz5;generalize hw4s:w4.heap.size=n4 at *;generalize (w4.alloc (.cells #[.int .i8 n.op,.int .i8 n.len,.int .i64 n.a0,.int .i64 n.a1,.int .i64 n.a2,.int .i64 n.sort,.int .i64 n.fn,.int .i64 n.n] 49)).drew=w5 at *;refine rd 7 fun K hK=>?_
     (refine step_append_full (by rfl) _ _ _ (by rfl) 49 i0 (.agg #[.int .i8 0,.int .i8 0,.int .i64 0,.int .i64 0,.int .i64 0,.int .i64 0,.int .i64 0,.int .i64 0]) 8 56 Tryz.underlying27 I0.out I1.out I2.out I3.out rfl (by decide) ⟨b,o,none⟩ t.length t.length (flatV nodeL t) (by rfl) (flatV_len (n:=8) (val:=nodeL) (fun _=>rfl) t) (fun j u hu=>by rw [Addr.add_lit];exact HCells.out j u hu) ⟨n4,0,none⟩ 1 1 (nodeL n) (by rfl) rfl (fun j u hu=>by rw [Addr.add_lit,Nat.zero_add,cell_of_cells (show w5.heap[n4]?=some (.cells #[.int .i8 n.op,.int .i8 n.len,.int .i64 n.a0,.int .i64 n.a1,.int .i64 n.a2,.int .i64 n.sort,.int .i64 n.fn,.int .i64 n.n] 49 (0,0)) from NN5.out) j];simpa [nodeL] using hu) (by omega) (by unfold maxLen;omega) (by omega) ?_;intro v' w6 hown hgr;obtain ⟨A',c',rfl⟩:=row_shape hown;have HOw:=kp hown;have HGr:=kp hgr;clear hown hgr)
     refine hK.out _ _ (⟨(HGr.out.block _ (lt_of_block T5.out) (by simp)).trans T5.out,(HGr.out.block _ (lt_of_block N5.out) (by simp)).trans N5.out⟩) (fun hHeld=>?_);clear hK K;try simp only [pt]
     have R6:=kp ((HGr.out.block _ (lt_of_block R5.out) (by simp)).trans R5.out);obtain ⟨r0,rf⟩:=Bk.c1 R6.out;refine tk 8 (v:=?_) ?_ ?_;rotate_left
     ·(intro w hSw;go_simp;try with_reducible rfl)
     try simp only [pt]
     refine rd 10 fun K hK=>?_;go_simp;refine hK.out _ _ (⟨Bk.apart hHeld.1 (p:=⟨w.heap.size+2,0,none⟩) (by show w.heap.size≠w.heap.size+2;omega) _,Bk.apart hHeld.2 (p:=⟨w.heap.size+2,0,none⟩) (by show w.heap.size+1≠w.heap.size+2;omega) _⟩) (fun hHeld=>?_);clear hK K;try simp only [pt]
     refine plz [11,12] ?_;iterate 2 (refine tnz (v:=?_) ?_ ?_;rotate_left;(focus (intro w hSw;go_simp;try with_reducible rfl));try simp only [pt])
     refine pzz ?_;refine dnz ?_;clear hHeld;go_wp2_with fail
     refine tput_ret (w:=w6.setCell ⟨w.heap.size+2,0,none⟩ (.slice A' (t.length+1) c')) Tryz.results139 (Bk.set_at R6.out 0 _) rfl rfl rfl rfl ?_;rw [HR.out];have HB6:=kp (show Below w.heap.size w w6 from BW5.out.grown HGr.out BW5.out.size (by intro q hq;cases hq))
     have hshape:t.length+1<=c'/\c'<=maxLen:=by
      rcases HOw.out.2 with⟨_,h⟩ | ⟨g,cap,cur,h1,_,_,h2,h3,_⟩
      ·omega
      ·simp only [Value.slice.injEq] at h1;obtain ⟨_,_,rfl⟩:=h1;exact⟨h2,h3⟩
     refine⟨A',c',by rw [show(t ++ [n]).length=t.length+1 by simp],by rw [show(t ++ [n]).length=t.length+1 by simp];exact hshape,HB6.out.setCell (p:=⟨w.heap.size+2,0,none⟩) (by show w.heap.size<=w.heap.size+2;omega) _,.inr fun W' hW=>?_⟩;have hlw:=lt_of_block R5.out
     have hNI:∀ x,x ∈ t ++ [n]->NodeI x:=fun x hx=>by
      rcases List.mem_append.1 hx with hx | hx
      ·obtain ⟨k,hk⟩:=List.getElem?_of_mem hx;obtain ⟨_,_,_,_,hi⟩:=node_get HL.out hk;exact hi
      ·obtain rfl:x=n:=by simpa using hx
       exact HI.out
     have hsame:∀ q,w5.heap.size<=q->q < w6.heap.size->W'.heap[q]?=w6.heap[q]?:=fun q h1 h2 =>
      (hW.block q (by simpa [World.setCell] using h2) (by omega)).trans (Below.heap_setCell w6 _ _ q (by show q≠w.heap.size+2;omega))
     exact owns_lies' (R:=NodeR) (val:=nodeL) (t:=49) (base:=w5.heap.size) (w:=w6) (fun _=>rfl) (fun W x hx=>⟨rfl,hNI x hx⟩) (by rw [show(t ++ [n]).length=t.length+1 by simp,flatV_snoc];exact HOw.out) hsame
end El
end Go.Proofs.YtpmdcckapddchaaGreatDoor
