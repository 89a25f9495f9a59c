import Derived.Test.YtpmdcckapddchaaGreatDoorShort
import Derived.Test.YtpmdcckapddchaaGreatDoorMw
import Derived.Test.YtpmdcckapddchaaGreatDoorMr
/- merged by wip/merge.py from: ElOp ElLeft -/
set_option maxRecDepth 100000
set_option maxHeartbeats 51200000
namespace Go.Proofs.YtpmdcckapddchaaGreatDoor
namespace El
open Go.RowKit Go.Maps Dt Sg
def ValR (_:World) (vs:List Value) (v:V):Prop:=vs=[.int .i64 v.1,.int .i64 v.2]/\VI v
theorem ValR.lasts:Lasts ValR:=fun _ _ _ _ _ h=>h
theorem val_get {w:World} {A:Option Addr} {l:List V} (h:Lies 2 ValR w A l) {k:Nat} {v:V} (hv:l[k]?=some v):∃ b o,A=some ⟨b,o,none⟩/\b < w.heap.size/\w.cell? ⟨b,o+k * 2,none⟩=some (.int .i64 v.1)/\w.cell? ⟨b,o+k * 2+1,none⟩=some (.int .i64 v.2)/\VI v:=by
 obtain ⟨b,o,vs,hA,hb,_,hc,rfl,hi⟩:=h.at' hv;exact⟨b,o,hA,hb,hc 0 _ rfl,hc 1 _ rfl,hi⟩
def argK (l:List V) (k i:Nat):Int:=if i < k then nthN l i else 0
theorem opS_i64 {op:Int} {l:List Int} {s:Int} (h:opS op l=some s) (hl:∀ x ∈ l,I64 x):I64 s:=by
 unfold opS at h
 repeat' split at h
 all_goals first | (cases h;unfold I64;omega) | (cases h;exact hl _ (by simp)) | cases h
theorem nthN_i64 {l:List V} (h:∀ v ∈ l,VI v) (i:Nat):I64 (nthN l i):=by
 unfold nthN;rw [List.getD_eq_getElem?_getD]
 cases hv:l[i]? with
 | none=>exact v0_VI.2
 | some v=>exact(h v (mgq hv)).2
theorem lies_vi {w:World} {A:Option Addr} {l:List V} (h:Lies 2 ValR w A l):∀ v ∈ l,VI v:=by
 intro v hv;obtain ⟨k,hk⟩:=List.getElem?_of_mem hv;obtain ⟨_,_,_,_,_,_,h⟩:=val_get h hk;exact h
theorem owns_keepE {S:Nat->Prop} {w w':World} {B m n:Nat} {t:TypeId} {v:Value} {xs:List Value} (h:w.ownsRow B t m v n xs) (hk:Keeps S w w') (hS:∀ k,S k->k < B):w'.ownsRow B t m v n xs:=by
 refine⟨h.1,?_⟩;rcases h.2 with h1 | ⟨g,cap,cur,h1,hg,hat,h2⟩
 ·exact .inl h1
 ·exact .inr ⟨g,cap,cur,h1,hg,(hk.block g (lt_of_block hat) (fun hs=>by have:=hS g hs;omega)).trans hat,h2⟩
theorem argK_full (l:List V) (i:Nat):argK l l.length i=nthN l i:=by
 unfold argK
 split
 ·rfl
 ·rename_i h
  unfold nthN;rw [List.getD_eq_getElem?_getD,List.getElem?_eq_none (by omega)]
  rfl
theorem row_cap {w:World} {B n s c:Nat} {t:TypeId} {A:Option Addr} {xs:List Value} (h:w.ownsRow B t s (.slice A n c) n xs):n<=c/\c<=maxLen:=by
 rcases h.2 with⟨h1,h2⟩ | ⟨g,cap,cur,h1,_,_,h3,h4,_⟩
 ·simp only [Value.slice.injEq] at h1;obtain ⟨_,rfl,rfl⟩:=h1;exact⟨nlq,by unfold maxLen;omega⟩
 ·simp only [Value.slice.injEq] at h1;obtain ⟨_,_,rfl⟩:=h1;exact⟨h3,h4⟩
theorem args_set {op ln n:Int} {l:List V} {k:Nat} {v:V} (hk:k < 3) (hv:l[k]?=some v) :
  #[Value.int .i8 op,.int .i8 ln,.int .i64 (argK l k 0),.int .i64 (argK l k 1),.int .i64 (argK l k 2),.int .i64 0,.int .i64 0,.int .i64 n].setIfInBounds (2+k) (.int .i64 v.2) =
  #[Value.int .i8 op,.int .i8 ln,.int .i64 (argK l (k+1) 0),.int .i64 (argK l (k+1) 1),.int .i64 (argK l (k+1) 2),.int .i64 0,.int .i64 0,.int .i64 n]:=by
 have hn:nthN l k=v.2:=by unfold nthN;rw [List.getD_eq_getElem?_getD,hv];rfl
 have hc:k=0\/k=1\/k=2:=by omega
 rcases hc with rfl | rfl | rfl <;> simp [argK,hn]
theorem op_any {F:Fix} (hF:FixOk F) {w:World} {known:Int} {st:St} {At:Option Addr} {ct:Nat} (hm:Mk F w known st At ct) (op n:Int) (hop:I8 op) (hn:I64 n) {L:Option Addr} {l:List V} (cl:Nat) (hl:Lies 2 ValR w L l) (h3:l.length<=3) :
  Calls Tryz.prog 55 #[.pointer (some ⟨F.mb,0,none⟩),.int .i8 op,.int .i64 n,.slice L l.length cl] w (MkPost F known w st.t At (opM F.c op n l st).1 (opM F.c op n l st).2):=by
 obtain ⟨i0,hi0,z0,z1,z2⟩:=info_parts info_int;have I0:=kp hi0;have I1:=kp z0;have I2:=kp z1;have I3:=kp z2;clear hi0 z0 z1 z2
 have HS:=kp (show opM F.c op n l st=if st.e≠0 then(v0,st)
  else match opS op (l.map Prod.fst) with
   | none=>(v0,{ st with e:=33 })
   | some s=>putM F.c ⟨op,l.length,nthN l 0,nthN l 1,nthN l 2,s,0,if F.c.build then n else 0⟩ st from rfl)
 have HM:=kp (hm.keep ((brq w).alloc nlq (.cells #[.int .i64 0,.int .i64 0] 82)));have RB:=kp (Bk.new w (.cells #[.int .i64 0,.int .i64 0] 82));have B1:=kp ((brq w).alloc nlq (.cells #[.int .i64 0,.int .i64 0] 82));have HZ1:=kp (show(w.alloc (.cells #[.int .i64 0,.int .i64 0] 82)).heap.size=w.heap.size+1 by simp);have hlt:=hm.lt;have HFr:=kp (hm.new_far (Nat.le_refl w.heap.size));have HFx:=kp (hm.new_far (show w.heap.size<=w.heap.size+1 by omega));have HOp:=kp (fun W A c hc hcl hcm=>tyop_any (w:=W) (A:=A) (l:=l.map Prod.fst) (c:=c) op hop hc (by rw [List.length_map];omega) hcl hcm);have HOs:=kp (opProg_some (op:=op) (l:=l.map Prod.fst));have HSi:=kp (fun s h=>opS_i64 (op:=op) (l:=l.map Prod.fst) (s:=s) h (fun x hx=>by obtain ⟨v,hv,rfl⟩:=List.mem_map.1 hx;exact(lies_vi hl v hv).1));have HNi:=kp (nthN_i64 (lies_vi hl));unfold OpPost at HOp;rw [List.length_map] at HOp;have HL:=kp hl;have HK:=kp ((Keeps.refl (onMb F) w).alloc (.cells #[.int .i64 0,.int .i64 0] 82));clear hl;generalize opM F.c op n l st=res at *
 go_enter Tryz.func55,Tryz.ntmps55
 go_upto_region 1 with fail
 generalize w.alloc (.cells #[.int .i64 0,.int .i64 0] 82)=w1 at *;obtain ⟨m0,m1,m2,m3,m4,m5,m6,m7,m8,mf⟩:=Bk.c9 HM.out.blk
 by_cases he0:st.e=0
 ·have he1:(st.e != 0)=false:=by simp [he0]
  replace HS:=kp (HS.out.trans (if_neg (by simp [he0])));have HE0:=kp he0;have hl128:(l.length:Int) < 128:=by omega
  clear he0;go_upto_region 4 with fail
  have hlt1:F.mb < w1.heap.size:=by rw [HZ1.out];omega
  have MA:=kp (HM.out.keep ((brq w1).alloc nlq (.cells #[.int .i8 op,.int .i8 (l.length:Int),.int .i64 0,.int .i64 0,.int .i64 0,.int .i64 0,.int .i64 0,.int .i64 n] 49)));clear m0 m1 m2 m3 m4 m5 m6 m7 m8 mf;obtain ⟨m0,m1,m2,m3,m4,m5,m6,m7,m8,mf⟩:=Bk.c9 MA.out.blk;have HZ2:=kp (show F.mb < w.heap.size+1 by omega)
  cases hbu:F.c.build with
  | false =>
   rw [hbu] at HS m5;have hnz:I64 0:=v0_VI.1;clear hbu;go_upto_region 6 with fail
   clear m0 m1 m2 m3 m4 m5 m6 m7 m8 mf MA;have XB:=kp (show(w1.alloc (.cells #[.int .i8 op,.int .i8 (l.length:Int),.int .i64 0,.int .i64 0,.int .i64 0,.int .i64 0,.int .i64 0,.int .i64 0] 49)).heap[w.heap.size+1]?=some (.cells #[.int .i8 op,.int .i8 (l.length:Int),.int .i64 0,.int .i64 0,.int .i64 0,.int .i64 0,.int .i64 0,.int .i64 0] 49 (0,0)) by have h:=Bk.new w1 (.cells #[.int .i8 op,.int .i8 (l.length:Int),.int .i64 0,.int .i64 0,.int .i64 0,.int .i64 0,.int .i64 0,.int .i64 0] 49);rwa [HZ1.out] at h);have M2:=kp (HM.out.keep ((brq w1).alloc nlq (.cells #[.int .i8 op,.int .i8 (l.length:Int),.int .i64 0,.int .i64 0,.int .i64 0,.int .i64 0,.int .i64 0,.int .i64 0] 49)));have R2:=kp (Bk.keep RB.out (.cells #[.int .i8 op,.int .i8 (l.length:Int),.int .i64 0,.int .i64 0,.int .i64 0,.int .i64 0,.int .i64 0,.int .i64 0] 49));have B2:=kp (B1.out.alloc B1.out.size (.cells #[.int .i8 op,.int .i8 (l.length:Int),.int .i64 0,.int .i64 0,.int .i64 0,.int .i64 0,.int .i64 0,.int .i64 0] 49));have Z2:=kp (show w.heap.size+2<=(w1.alloc (.cells #[.int .i8 op,.int .i8 (l.length:Int),.int .i64 0,.int .i64 0,.int .i64 0,.int .i64 0,.int .i64 0,.int .i64 0] 49)).heap.size by simp [HZ1.out]);try rw [HZ1.out]
   generalize w1.alloc (.cells #[.int .i8 op,.int .i8 (l.length:Int),.int .i64 0,.int .i64 0,.int .i64 0,.int .i64 0,.int .i64 0,.int .i64 0] 49)=w2 at *;go_wp2_with fail
   go_loopw [10,35] (fun v' i' wr=>∃ k:Nat,k<=l.length/\i'=.int .i64 k/\wr.ownsRow (w.heap.size+2) 3 1 v' k (((l.take k).map Prod.fst).map (Value.int .i64))/\Below w.heap.size w wr/\w.heap.size+2<=wr.heap.size/\wr.heap[w.heap.size]?=some (.cells #[.int .i64 0,.int .i64 0] 82 (0,0))/\wr.heap[w.heap.size+1]?=some (.cells #[.int .i8 op,.int .i8 (l.length:Int),.int .i64 (argK l k 0),.int .i64 (argK l k 1),.int .i64 (argK l k 2),.int .i64 0,.int .i64 0,.int .i64 0] 49 (0,0))) (fun _ i' _=>l.length - (intOf i').toNat)
   case atStart=>exact⟨0,Nat.zero_le _,rfl,⟨rfl,.inl ⟨rfl,rfl⟩⟩,B2.out,Z2.out,R2.out,XB.out⟩
   case round =>
    obtain ⟨k,hk,rfl,ho,hb,hz,hr,hx⟩:=hrel;have HO:=kp ho;have HB:=kp hb;have HZ:=kp hz;have RR:=kp hr;have XR:=kp hx;obtain ⟨Ao,co,rfl⟩:=row_shape ho;clear ho hb hz hr hx
    by_cases hkl:k < l.length
    ·have hlt2:(k:Int) < (l.length:Int):=by omega
     have hk3:k < 3:=by omega
     obtain ⟨v,hv⟩:∃ v,l[k]?=some v:=⟨_,gqe hkl⟩;obtain ⟨b,o,rfl,hbl,e0,e1,hvi⟩:=val_get (HL.out.on ValR.lasts HB.out) hv;have HV:=kp hvi;have HSet:=kp (args_set (op:=op) (ln:=(l.length:Int)) (n:=0) hk3 hv);have HTk:=kp (show((l.take (k+1)).map Prod.fst).map (Value.int .i64)=((l.take k).map Prod.fst).map (Value.int .i64) ++ [.int .i64 v.1] by rw [List.take_add_one,hv];simp);generalize ((l.take k).map Prod.fst).map (Value.int .i64)=vk at *;have XA:=kp (Bk.keep XR.out (.cells #[.int .i64 v.1,.int .i64 v.2] 82));have RA:=kp (Bk.keep RR.out (.cells #[.int .i64 v.1,.int .i64 v.2] 82));have VA:=kp (Bk.new wr (.cells #[.int .i64 v.1,.int .i64 v.2] 82));have BA:=kp (HB.out.alloc HB.out.size (.cells #[.int .i64 v.1,.int .i64 v.2] 82));have OA:=kp (show World.ownsRow (wr.alloc (.cells #[.int .i64 v.1,.int .i64 v.2] 82)) (w.heap.size+2) 3 1 (.slice Ao k co) k vk from HO.out.alloc _);have ZA:=kp (show w.heap.size+2<=(wr.alloc (.cells #[.int .i64 v.1,.int .i64 v.2] 82)).heap.size by have:=HZ.out;simp;omega);have HZr:=kp (show wr.heap.size≠w.heap.size+1 by have:=HZ.out;omega);clear hv hvi HZ XR RR HB HO;go_upto_region 10 with fail
     generalize hwa:wr.alloc (.cells #[.int .i64 v.1,.int .i64 v.2] 82)=wa at *;clear hwa e0 e1;have pk:=NodeAt.arg' (node_block (n:=⟨op,l.length,argK l k 0,argK l k 1,argK l k 2,0,0,0⟩) XA.out) hk3;rw [Nat.zero_add] at pk;obtain ⟨_,_,_,_,_,_,_,_,xf⟩:=Bk.c8 XA.out;obtain ⟨v0',v1',vf⟩:=Bk.c2 VA.out;have KB:=kp ((Keeps.refl (fun b=>b=w.heap.size+1) wa).setCell (p:=⟨w.heap.size+1,2+k,none⟩) (.inl rfl) (.int .i64 v.2));have XC:=kp (Bk.set_at XA.out (2+k) (.int .i64 v.2));rw [HSet.out] at XC;have RC:=kp (Bk.apart RA.out (p:=⟨w.heap.size+1,2+k,none⟩) (by show w.heap.size≠w.heap.size+1;omega) (.int .i64 v.2));have VC:=kp (Bk.apart VA.out (p:=⟨w.heap.size+1,2+k,none⟩) (by show wr.heap.size≠w.heap.size+1;exact HZr.out) (.int .i64 v.2));have BC:=kp (BA.out.setCell (p:=⟨w.heap.size+1,2+k,none⟩) (by show w.heap.size<=w.heap.size+1;omega) (.int .i64 v.2));have OC:=kp (owns_keepE OA.out KB.out (fun b hb=>by omega));have ZC:=kp (show w.heap.size+2<=(wa.setCell ⟨w.heap.size+1,2+k,none⟩ (.int .i64 v.2)).heap.size from Nat.le_trans ZA.out KB.out.size);go_upto_region 11 with fail
     clear v0' v1' vf pk xf XA VA BA OA ZA KB;generalize hwc:wa.setCell ⟨w.heap.size+1,2+k,none⟩ (.int .i64 v.2)=wc at *;clear hwc;obtain ⟨v0',v1',vf⟩:=Bk.c2 VC.out;have OD:=kp (show World.ownsRow (wc.alloc (.cells #[.int .i64 v.1] 3)) (w.heap.size+2) 3 1 (.slice Ao k co) k vk from OC.out.alloc _);have CD:=kp (Cells.new wc [.int .i64 v.1] 3 (0,0));have XD:=kp (Bk.keep XC.out (.cells #[.int .i64 v.1] 3));have RD:=kp (Bk.keep RC.out (.cells #[.int .i64 v.1] 3));have BD:=kp (BC.out.alloc BC.out.size (.cells #[.int .i64 v.1] 3))
     go_wp2_with (at_builtin;refine wpList_append_at rfl (.tmp 45) (.tmp 48) _ rfl (w.heap.size+2) 3 i0 (.int .i64 0) 1 8 Tryz.underlying45 I0.out I1.out I2.out I3.out rfl (by decide) (.slice Ao k co) k vk rfl OD.out (some ⟨wc.heap.size,0,none⟩) 1 1 [.int .i64 v.1] rfl rfl CD.out (by simp [Value.oneCell']) (by unfold maxLen;omega) (by omega) (by have:=ZC.out;simp;omega) ?_)
     intro v9 w9 hown hgr hat;have O9:=kp (show w9.ownsRow (w.heap.size+2) 3 1 v9 (k+1) (((l.take (k+1)).map Prod.fst).map (Value.int .i64)) by rw [HTk.out];exact hown);have HNb:=kp (show ∀ j,j < w.heap.size+2->some j≠(Value.slice Ao k co).ownBlock from fun j hj e=>by have:=(OD.out.lt j e.symm).1;omega);have B9:=kp (BD.out.grown hgr (by have:=BD.out.size;simpa using this) (fun j hj=>by have:=(OD.out.lt j hj).1;omega));have X9:=kp ((hgr.block _ (lt_of_block XD.out) (HNb.out _ (by omega))).trans XD.out);have R9:=kp ((hgr.block _ (lt_of_block RD.out) (HNb.out _ (by omega))).trans RD.out);have Z9:=kp (show w.heap.size+2<=w9.heap.size by have:=ZC.out;have:=hgr.size;simp at this;omega);clear hown hgr hat v0' v1' vf;go_wp2_with fail
     go_roundw
     case rel=>exact⟨k+1,by omega,by go_num,O9.out,B9.out,Z9.out,R9.out,X9.out⟩
     case measure=>simp [intOf];omega
    ·obtain rfl:k=l.length:=by omega
     have HCp:=kp (row_cap HO.out);have HCl:=kp (Cells.own HO.out);rw [List.take_length] at HCl;have HCall:=kp (HOp.out wr Ao co HCl.out HCp.out.1 HCp.out.2);have MR:=kp (hm.keep HB.out)
     cases hos:opS op (l.map Prod.fst) with
     | none =>
      obtain ⟨p1,p2⟩:=HOs.out.2 hos;rw [hos] at HS;generalize opProg op (l.map Prod.fst)=pr at *;obtain ⟨pa,pb⟩:=pr;have hpb:(pb != 0)=true:=by rw [bne_iff_ne];simp at p2;omega
      clear hos p1 p2;go_wp2_with fail
      refine HCall.out.mono ?_;rintro e w5 ⟨rfl,hb5⟩;have B5:=kp (HB.out.trans (hb5.mono HB.out.size));have R5:=kp (Bk.on RR.out hb5);have M5:=kp (MR.out.keep hb5);have HFl:=kp (fail_any hF M5.out 33 (by decide));clear hb5;go_wp2_with fail
      refine HFl.out.mono ?_;rintro e w6 ⟨rfl,hv,hk6,A6,c6,hm6,ht6⟩;have R6:=kp ((hk6.block w.heap.size (lt_of_block R5.out) (by unfold onMb;omega)).trans R5.out);have M6:=kp hm6;have K6:=kp ((Keeps.of_below B5.out (onMb F)).trans_same hk6);have HT6:=kp (ht6.mono B5.out.size);have HF6:=kp (Far.of_tn HFr.out ht6 (lt_of_block R5.out));have HSf:=kp (show failS 33 st={ st with e:=33 } by unfold failS;rw [if_pos HE0.out]);rw [HSf.out] at M6 HT6 HF6;unfold valV v0;clear hv hk6 hm6 ht6;obtain ⟨r0,r1,rf⟩:=Bk.c2 R6.out;go_wp2_with fail
      rw [HS.out];refine mk_end (v:=v0) hF Tryz.results55 M6.out hlt K6.out HT6.out nlq HF6.out R6.out ?_ ?_ v0_VI <;> rfl
     | some s =>
      have hp:=HOs.out.1 s hos;have hsi:=HSi.out s hos;rw [hp] at HCall;rw [hos] at HS;clear hos hp;go_wp2_with fail
      refine HCall.out.mono ?_;rintro e w5 ⟨rfl,hb5⟩;have B5:=kp (HB.out.trans (hb5.mono HB.out.size));have R5:=kp (Bk.on RR.out hb5);have X5:=kp (Bk.on XR.out hb5);have M5:=kp (MR.out.keep hb5);clear hb5;obtain ⟨x0,x1,x2,x3,x4,x5,x6,x7,xf⟩:=Bk.c8 X5.out;go_upto_region 17 with fail
      clear x0 x1 x2 x3 x4 x5 x6 x7 xf;have X6:=kp (show(w5.setCell ⟨w.heap.size+1,5,none⟩ (.int .i64 s)).heap[w.heap.size+1]?=some (.cells #[.int .i8 op,.int .i8 (l.length:Int),.int .i64 (argK l l.length 0),.int .i64 (argK l l.length 1),.int .i64 (argK l l.length 2),.int .i64 s,.int .i64 0,.int .i64 0] 49 (0,0)) from Bk.set_at X5.out 5 (.int .i64 s));have R6:=kp (Bk.apart R5.out (p:=⟨w.heap.size+1,5,none⟩) (by show w.heap.size≠w.heap.size+1;omega) (.int .i64 s));have M6:=kp (M5.out.other hF (by omega) HFx.out 5 (.int .i64 s));have B6:=kp (B5.out.setCell (p:=⟨w.heap.size+1,5,none⟩) (by show w.heap.size<=w.heap.size+1;omega) (.int .i64 s));generalize w5.setCell ⟨w.heap.size+1,5,none⟩ (.int .i64 s)=w6 at *;have HNI:=kp (show NodeI ⟨op,l.length,argK l l.length 0,argK l l.length 1,argK l l.length 2,s,0,0⟩ from⟨hop,by show I8 (l.length:Int);unfold I8;simp [Lit.wf];rw [show IntKind.i8.min=-128 by rfl,show IntKind.i8.max=127 by rfl];omega,(argK_full l 0).symm ▸ HNi.out 0,(argK_full l 1).symm ▸ HNi.out 1,(argK_full l 2).symm ▸ HNi.out 2,hsi,v0_VI.1,hnz⟩);have HPut:=kp (put_any hF M6.out HNI.out);replace HS:=kp (show res=putM F.c ⟨op,l.length,argK l l.length 0,argK l l.length 1,argK l l.length 2,s,0,0⟩ st by rw [HS.out,argK_full,argK_full,argK_full];rfl);rw [← HS.out] at HPut;obtain ⟨x0,x1,x2,x3,x4,x5,x6,x7,xf⟩:=Bk.c8 X6.out;go_wp2_with fail
      refine HPut.out.mono ?_;rintro e w7 ⟨rfl,hv,hk7,A7,c7,hm7,ht7⟩;have R7:=kp ((hk7.block w.heap.size (lt_of_block R6.out) (by unfold onMb;omega)).trans R6.out);have M7:=kp hm7;have K7:=kp ((Keeps.of_below B6.out (onMb F)).trans_same hk7);have HT7:=kp (ht7.mono B6.out.size);have HF7:=kp (Far.of_tn HFr.out ht7 (lt_of_block R6.out));unfold valV;clear hk7 hm7 ht7 HS x0 x1 x2 x3 x4 x5 x6 x7 xf;obtain ⟨r0,r1,rf⟩:=Bk.c2 R7.out;go_wp2_with fail
      refine mk_end (v:=res.1) hF Tryz.results55 M7.out hlt K7.out HT7.out nlq HF7.out R7.out ?_ ?_ hv <;> rfl
  | true =>
   rw [hbu] at HS m5;clear hbu;go_upto_region 6 with fail
   clear m0 m1 m2 m3 m4 m5 m6 m7 m8 mf MA;have XB:=kp (show(w1.alloc (.cells #[.int .i8 op,.int .i8 (l.length:Int),.int .i64 0,.int .i64 0,.int .i64 0,.int .i64 0,.int .i64 0,.int .i64 n] 49)).heap[w.heap.size+1]?=some (.cells #[.int .i8 op,.int .i8 (l.length:Int),.int .i64 0,.int .i64 0,.int .i64 0,.int .i64 0,.int .i64 0,.int .i64 n] 49 (0,0)) by have h:=Bk.new w1 (.cells #[.int .i8 op,.int .i8 (l.length:Int),.int .i64 0,.int .i64 0,.int .i64 0,.int .i64 0,.int .i64 0,.int .i64 n] 49);rwa [HZ1.out] at h);have M2:=kp (HM.out.keep ((brq w1).alloc nlq (.cells #[.int .i8 op,.int .i8 (l.length:Int),.int .i64 0,.int .i64 0,.int .i64 0,.int .i64 0,.int .i64 0,.int .i64 n] 49)));have R2:=kp (Bk.keep RB.out (.cells #[.int .i8 op,.int .i8 (l.length:Int),.int .i64 0,.int .i64 0,.int .i64 0,.int .i64 0,.int .i64 0,.int .i64 n] 49));have B2:=kp (B1.out.alloc B1.out.size (.cells #[.int .i8 op,.int .i8 (l.length:Int),.int .i64 0,.int .i64 0,.int .i64 0,.int .i64 0,.int .i64 0,.int .i64 n] 49));have Z2:=kp (show w.heap.size+2<=(w1.alloc (.cells #[.int .i8 op,.int .i8 (l.length:Int),.int .i64 0,.int .i64 0,.int .i64 0,.int .i64 0,.int .i64 0,.int .i64 n] 49)).heap.size by simp [HZ1.out]);try rw [HZ1.out]
   generalize w1.alloc (.cells #[.int .i8 op,.int .i8 (l.length:Int),.int .i64 0,.int .i64 0,.int .i64 0,.int .i64 0,.int .i64 0,.int .i64 n] 49)=w2 at *;go_wp2_with fail
   go_loopw [10,35] (fun v' i' wr=>∃ k:Nat,k<=l.length/\i'=.int .i64 k/\wr.ownsRow (w.heap.size+2) 3 1 v' k (((l.take k).map Prod.fst).map (Value.int .i64))/\Below w.heap.size w wr/\w.heap.size+2<=wr.heap.size/\wr.heap[w.heap.size]?=some (.cells #[.int .i64 0,.int .i64 0] 82 (0,0))/\wr.heap[w.heap.size+1]?=some (.cells #[.int .i8 op,.int .i8 (l.length:Int),.int .i64 (argK l k 0),.int .i64 (argK l k 1),.int .i64 (argK l k 2),.int .i64 0,.int .i64 0,.int .i64 n] 49 (0,0))) (fun _ i' _=>l.length - (intOf i').toNat)
   case atStart=>exact⟨0,Nat.zero_le _,rfl,⟨rfl,.inl ⟨rfl,rfl⟩⟩,B2.out,Z2.out,R2.out,XB.out⟩
   case round =>
    obtain ⟨k,hk,rfl,ho,hb,hz,hr,hx⟩:=hrel;have HO:=kp ho;have HB:=kp hb;have HZ:=kp hz;have RR:=kp hr;have XR:=kp hx;obtain ⟨Ao,co,rfl⟩:=row_shape ho;clear ho hb hz hr hx
    by_cases hkl:k < l.length
    ·have hlt2:(k:Int) < (l.length:Int):=by omega
     have hk3:k < 3:=by omega
     obtain ⟨v,hv⟩:∃ v,l[k]?=some v:=⟨_,gqe hkl⟩;obtain ⟨b,o,rfl,hbl,e0,e1,hvi⟩:=val_get (HL.out.on ValR.lasts HB.out) hv;have HV:=kp hvi;have HSet:=kp (args_set (op:=op) (ln:=(l.length:Int)) (n:=n) hk3 hv);have HTk:=kp (show((l.take (k+1)).map Prod.fst).map (Value.int .i64)=((l.take k).map Prod.fst).map (Value.int .i64) ++ [.int .i64 v.1] by rw [List.take_add_one,hv];simp);generalize ((l.take k).map Prod.fst).map (Value.int .i64)=vk at *;have XA:=kp (Bk.keep XR.out (.cells #[.int .i64 v.1,.int .i64 v.2] 82));have RA:=kp (Bk.keep RR.out (.cells #[.int .i64 v.1,.int .i64 v.2] 82));have VA:=kp (Bk.new wr (.cells #[.int .i64 v.1,.int .i64 v.2] 82));have BA:=kp (HB.out.alloc HB.out.size (.cells #[.int .i64 v.1,.int .i64 v.2] 82));have OA:=kp (show World.ownsRow (wr.alloc (.cells #[.int .i64 v.1,.int .i64 v.2] 82)) (w.heap.size+2) 3 1 (.slice Ao k co) k vk from HO.out.alloc _);have ZA:=kp (show w.heap.size+2<=(wr.alloc (.cells #[.int .i64 v.1,.int .i64 v.2] 82)).heap.size by have:=HZ.out;simp;omega);have HZr:=kp (show wr.heap.size≠w.heap.size+1 by have:=HZ.out;omega);clear hv hvi HZ XR RR HB HO;go_upto_region 10 with fail
     generalize hwa:wr.alloc (.cells #[.int .i64 v.1,.int .i64 v.2] 82)=wa at *;clear hwa e0 e1;have pk:=NodeAt.arg' (node_block (n:=⟨op,l.length,argK l k 0,argK l k 1,argK l k 2,0,0,n⟩) XA.out) hk3;rw [Nat.zero_add] at pk;obtain ⟨_,_,_,_,_,_,_,_,xf⟩:=Bk.c8 XA.out;obtain ⟨v0',v1',vf⟩:=Bk.c2 VA.out;have KB:=kp ((Keeps.refl (fun b=>b=w.heap.size+1) wa).setCell (p:=⟨w.heap.size+1,2+k,none⟩) (.inl rfl) (.int .i64 v.2));have XC:=kp (Bk.set_at XA.out (2+k) (.int .i64 v.2));rw [HSet.out] at XC;have RC:=kp (Bk.apart RA.out (p:=⟨w.heap.size+1,2+k,none⟩) (by show w.heap.size≠w.heap.size+1;omega) (.int .i64 v.2));have VC:=kp (Bk.apart VA.out (p:=⟨w.heap.size+1,2+k,none⟩) (by show wr.heap.size≠w.heap.size+1;exact HZr.out) (.int .i64 v.2));have BC:=kp (BA.out.setCell (p:=⟨w.heap.size+1,2+k,none⟩) (by show w.heap.size<=w.heap.size+1;omega) (.int .i64 v.2));have OC:=kp (owns_keepE OA.out KB.out (fun b hb=>by omega));have ZC:=kp (show w.heap.size+2<=(wa.setCell ⟨w.heap.size+1,2+k,none⟩ (.int .i64 v.2)).heap.size from Nat.le_trans ZA.out KB.out.size);go_upto_region 11 with fail
     clear v0' v1' vf pk xf XA VA BA OA ZA KB;generalize hwc:wa.setCell ⟨w.heap.size+1,2+k,none⟩ (.int .i64 v.2)=wc at *;clear hwc;obtain ⟨v0',v1',vf⟩:=Bk.c2 VC.out;have OD:=kp (show World.ownsRow (wc.alloc (.cells #[.int .i64 v.1] 3)) (w.heap.size+2) 3 1 (.slice Ao k co) k vk from OC.out.alloc _);have CD:=kp (Cells.new wc [.int .i64 v.1] 3 (0,0));have XD:=kp (Bk.keep XC.out (.cells #[.int .i64 v.1] 3));have RD:=kp (Bk.keep RC.out (.cells #[.int .i64 v.1] 3));have BD:=kp (BC.out.alloc BC.out.size (.cells #[.int .i64 v.1] 3))
     go_wp2_with (at_builtin;refine wpList_append_at rfl (.tmp 45) (.tmp 48) _ rfl (w.heap.size+2) 3 i0 (.int .i64 0) 1 8 Tryz.underlying45 I0.out I1.out I2.out I3.out rfl (by decide) (.slice Ao k co) k vk rfl OD.out (some ⟨wc.heap.size,0,none⟩) 1 1 [.int .i64 v.1] rfl rfl CD.out (by simp [Value.oneCell']) (by unfold maxLen;omega) (by omega) (by have:=ZC.out;simp;omega) ?_)
     intro v9 w9 hown hgr hat;have O9:=kp (show w9.ownsRow (w.heap.size+2) 3 1 v9 (k+1) (((l.take (k+1)).map Prod.fst).map (Value.int .i64)) by rw [HTk.out];exact hown);have HNb:=kp (show ∀ j,j < w.heap.size+2->some j≠(Value.slice Ao k co).ownBlock from fun j hj e=>by have:=(OD.out.lt j e.symm).1;omega);have B9:=kp (BD.out.grown hgr (by have:=BD.out.size;simpa using this) (fun j hj=>by have:=(OD.out.lt j hj).1;omega));have X9:=kp ((hgr.block _ (lt_of_block XD.out) (HNb.out _ (by omega))).trans XD.out);have R9:=kp ((hgr.block _ (lt_of_block RD.out) (HNb.out _ (by omega))).trans RD.out);have Z9:=kp (show w.heap.size+2<=w9.heap.size by have:=ZC.out;have:=hgr.size;simp at this;omega);clear hown hgr hat v0' v1' vf;go_wp2_with fail
     go_roundw
     case rel=>exact⟨k+1,by omega,by go_num,O9.out,B9.out,Z9.out,R9.out,X9.out⟩
     case measure=>simp [intOf];omega
    ·obtain rfl:k=l.length:=by omega
     have HCp:=kp (row_cap HO.out);have HCl:=kp (Cells.own HO.out);rw [List.take_length] at HCl;have HCall:=kp (HOp.out wr Ao co HCl.out HCp.out.1 HCp.out.2);have MR:=kp (hm.keep HB.out)
     cases hos:opS op (l.map Prod.fst) with
     | none =>
      obtain ⟨p1,p2⟩:=HOs.out.2 hos;rw [hos] at HS;generalize opProg op (l.map Prod.fst)=pr at *;obtain ⟨pa,pb⟩:=pr;have hpb:(pb != 0)=true:=by rw [bne_iff_ne];simp at p2;omega
      clear hos p1 p2;go_wp2_with fail
      refine HCall.out.mono ?_;rintro e w5 ⟨rfl,hb5⟩;have B5:=kp (HB.out.trans (hb5.mono HB.out.size));have R5:=kp (Bk.on RR.out hb5);have M5:=kp (MR.out.keep hb5);have HFl:=kp (fail_any hF M5.out 33 (by decide));clear hb5;go_wp2_with fail
      refine HFl.out.mono ?_;rintro e w6 ⟨rfl,hv,hk6,A6,c6,hm6,ht6⟩;have R6:=kp ((hk6.block w.heap.size (lt_of_block R5.out) (by unfold onMb;omega)).trans R5.out);have M6:=kp hm6;have K6:=kp ((Keeps.of_below B5.out (onMb F)).trans_same hk6);have HT6:=kp (ht6.mono B5.out.size);have HF6:=kp (Far.of_tn HFr.out ht6 (lt_of_block R5.out));have HSf:=kp (show failS 33 st={ st with e:=33 } by unfold failS;rw [if_pos HE0.out]);rw [HSf.out] at M6 HT6 HF6;unfold valV v0;clear hv hk6 hm6 ht6;obtain ⟨r0,r1,rf⟩:=Bk.c2 R6.out;go_wp2_with fail
      rw [HS.out];refine mk_end (v:=v0) hF Tryz.results55 M6.out hlt K6.out HT6.out nlq HF6.out R6.out ?_ ?_ v0_VI <;> rfl
     | some s =>
      have hp:=HOs.out.1 s hos;have hsi:=HSi.out s hos;rw [hp] at HCall;rw [hos] at HS;clear hos hp;go_wp2_with fail
      refine HCall.out.mono ?_;rintro e w5 ⟨rfl,hb5⟩;have B5:=kp (HB.out.trans (hb5.mono HB.out.size));have R5:=kp (Bk.on RR.out hb5);have X5:=kp (Bk.on XR.out hb5);have M5:=kp (MR.out.keep hb5);clear hb5;obtain ⟨x0,x1,x2,x3,x4,x5,x6,x7,xf⟩:=Bk.c8 X5.out;go_upto_region 17 with fail
      clear x0 x1 x2 x3 x4 x5 x6 x7 xf;have X6:=kp (show(w5.setCell ⟨w.heap.size+1,5,none⟩ (.int .i64 s)).heap[w.heap.size+1]?=some (.cells #[.int .i8 op,.int .i8 (l.length:Int),.int .i64 (argK l l.length 0),.int .i64 (argK l l.length 1),.int .i64 (argK l l.length 2),.int .i64 s,.int .i64 0,.int .i64 n] 49 (0,0)) from Bk.set_at X5.out 5 (.int .i64 s));have R6:=kp (Bk.apart R5.out (p:=⟨w.heap.size+1,5,none⟩) (by show w.heap.size≠w.heap.size+1;omega) (.int .i64 s));have M6:=kp (M5.out.other hF (by omega) HFx.out 5 (.int .i64 s));have B6:=kp (B5.out.setCell (p:=⟨w.heap.size+1,5,none⟩) (by show w.heap.size<=w.heap.size+1;omega) (.int .i64 s));generalize w5.setCell ⟨w.heap.size+1,5,none⟩ (.int .i64 s)=w6 at *;have HNI:=kp (show NodeI ⟨op,l.length,argK l l.length 0,argK l l.length 1,argK l l.length 2,s,0,n⟩ from⟨hop,by show I8 (l.length:Int);unfold I8;simp [Lit.wf];rw [show IntKind.i8.min=-128 by rfl,show IntKind.i8.max=127 by rfl];omega,(argK_full l 0).symm ▸ HNi.out 0,(argK_full l 1).symm ▸ HNi.out 1,(argK_full l 2).symm ▸ HNi.out 2,hsi,v0_VI.1,hn⟩);have HPut:=kp (put_any hF M6.out HNI.out);replace HS:=kp (show res=putM F.c ⟨op,l.length,argK l l.length 0,argK l l.length 1,argK l l.length 2,s,0,n⟩ st by rw [HS.out,argK_full,argK_full,argK_full];rfl);rw [← HS.out] at HPut;obtain ⟨x0,x1,x2,x3,x4,x5,x6,x7,xf⟩:=Bk.c8 X6.out;go_wp2_with fail
      refine HPut.out.mono ?_;rintro e w7 ⟨rfl,hv,hk7,A7,c7,hm7,ht7⟩;have R7:=kp ((hk7.block w.heap.size (lt_of_block R6.out) (by unfold onMb;omega)).trans R6.out);have M7:=kp hm7;have K7:=kp ((Keeps.of_below B6.out (onMb F)).trans_same hk7);have HT7:=kp (ht7.mono B6.out.size);have HF7:=kp (Far.of_tn HFr.out ht7 (lt_of_block R6.out));unfold valV;clear hk7 hm7 ht7 HS x0 x1 x2 x3 x4 x5 x6 x7 xf;obtain ⟨r0,r1,rf⟩:=Bk.c2 R7.out;go_wp2_with fail
      refine mk_end (v:=res.1) hF Tryz.results55 M7.out hlt K7.out HT7.out nlq HF7.out R7.out ?_ ?_ hv <;> rfl
 ·have he1:(st.e != 0)=true:=by simp [he0]
  replace HS:=kp (HS.out.trans (if_pos he0));clear he0;obtain ⟨r0,r1,rf⟩:=Bk.c2 RB.out;go_wp2_with fail
  rw [HS.out];refine mk_end (v:=v0) hF Tryz.results55 HM.out hlt HK.out (TN.refl _ _ _) nlq HFr.out RB.out ?_ ?_ v0_VI <;> rfl
def ValsS (F:Fix) (w:World) (L:Option Addr) (l:List V):Prop:=Sta F (fun W=>Lies 2 ValR W L l) w
theorem ValsS.on {F:Fix} {w w':World} {L:Option Addr} {l:List V} (h:ValsS F w L l) (hk:Keeps (onMb F) w w'):ValsS F w' L l:=Sta.on h hk
theorem ValsS.now {F:Fix} {w:World} {L:Option Addr} {l:List V} (h:ValsS F w L l):Lies 2 ValR w L l:=Sta.now h
theorem lies_one {w:World} {b:Nat} {v:V} {t:TypeId} (h:w.heap[b]?=some (.cells #[.int .i64 v.1,.int .i64 v.2] t (0,0))) (hv:VI v):Lies 2 ValR w (some ⟨b,0,none⟩) [v]:=by
 obtain ⟨c0,c1,_⟩:=Bk.c2 h;refine .inr ⟨b,0,rfl,lt_of_block h,fun i x hx=>?_⟩
 match i,hx with
 | 0,hx =>
  obtain rfl:v=x:=by simpa using hx
  refine⟨[.int .i64 v.1,.int .i64 v.2],rfl,fun j u hu=>?_,rfl,hv⟩
  match j,hu with
  | 0,hu=>cases hu;exact c0
  | 1,hu=>cases hu;exact c1
  | j+2,hu=>simp at hu
 | i+1,hx=>simp at hx
theorem lies_two {w:World} {b:Nat} {v u:V} {t:TypeId} (h:w.heap[b]?=some (.cells #[.int .i64 v.1,.int .i64 v.2,.int .i64 u.1,.int .i64 u.2] t (0,0))) (hv:VI v) (hu:VI u):Lies 2 ValR w (some ⟨b,0,none⟩) [v,u]:=by
 obtain ⟨c0,c1,c2,c3,_⟩:=Bk.c4 h;refine .inr ⟨b,0,rfl,lt_of_block h,fun i x hx=>?_⟩
 match i,hx with
 | 0,hx =>
  obtain rfl:v=x:=by simpa using hx
  refine⟨[.int .i64 v.1,.int .i64 v.2],rfl,fun j u hu=>?_,rfl,hv⟩
  match j,hu with
  | 0,hu=>cases hu;exact c0
  | 1,hu=>cases hu;exact c1
  | j+2,hu=>simp at hu
 | 1,hx =>
  obtain rfl:u=x:=by simpa using hx
  refine⟨[.int .i64 u.1,.int .i64 u.2],rfl,fun j u hu=>?_,rfl,hu⟩
  match j,hu with
  | 0,hu=>cases hu;exact c2
  | 1,hu=>cases hu;exact c3
  | j+2,hu=>simp at hu
 | i+2,hx=>simp at hx
theorem I8.of {n:Int} (h0:0<=n) (h1:n<=127):I8 n:=by
 unfold I8;simp [Lit.wf];rw [show IntKind.i8.min=-128 by rfl,show IntKind.i8.max=127 by rfl];omega
theorem not_any {F:Fix} (hF:FixOk F) {w:World} {known:Int} {st:St} {At:Option Addr} {ct:Nat} (hm:Mk F w known st At ct) {L:Option Addr} {l:List V} (cl:Nat) (hl:ValsS F w L l) (h3:l.length<=3) :
  Calls Tryz.prog 141 #[.pointer (some ⟨F.mb,0,none⟩),.slice L l.length cl] w (MkPost F known w st.t At (opM F.c 1 0 l st).1 (opM F.c 1 0 l st).2):=by
 have B1:=kp ((brq w).alloc nlq (.cells #[.int .i64 0,.int .i64 0] 82));have RB:=kp (Bk.new w (.cells #[.int .i64 0,.int .i64 0] 82));have hlt:=hm.lt;have HFr:=kp (hm.new_far (Nat.le_refl w.heap.size));have HC:=kp (op_any hF (hm.keep B1.out) 1 0 (I8.of (by decide) (by decide)) v0_VI.1 cl ((hl.on (Keeps.of_below B1.out _)).now) h3);generalize opM F.c 1 0 l st=res at *
 go_enter Tryz.func141,Tryz.ntmps141
 go_upto_region 1 with fail
 generalize w.alloc (.cells #[.int .i64 0,.int .i64 0] 82)=w1 at *;go_wp2_with fail
 refine HC.out.mono ?_;rintro e w7 ⟨rfl,hv,hk7,A7,c7,hm7,ht7⟩;have R7:=kp ((hk7.block w.heap.size (lt_of_block RB.out) (by unfold onMb;omega)).trans RB.out);have M7:=kp hm7;have K7:=kp ((Keeps.of_below B1.out (onMb F)).trans_same hk7);have HT7:=kp (ht7.mono B1.out.size);have HF7:=kp (Far.of_tn HFr.out ht7 (lt_of_block RB.out));unfold valV;clear hk7 hm7 ht7;obtain ⟨r0,r1,rf⟩:=Bk.c2 R7.out;go_wp2_with fail
 refine mk_end (v:=res.1) hF Tryz.results141 M7.out hlt K7.out HT7.out nlq HF7.out R7.out ?_ ?_ hv <;> rfl
theorem ite_any {F:Fix} (hF:FixOk F) {w:World} {known:Int} {st:St} {At:Option Addr} {ct:Nat} (hm:Mk F w known st At ct) {L:Option Addr} {l:List V} (cl:Nat) (hl:ValsS F w L l) (h3:l.length<=3) :
  Calls Tryz.prog 148 #[.pointer (some ⟨F.mb,0,none⟩),.slice L l.length cl] w (MkPost F known w st.t At (opM F.c 7 0 l st).1 (opM F.c 7 0 l st).2):=by
 have B1:=kp ((brq w).alloc nlq (.cells #[.int .i64 0,.int .i64 0] 82));have RB:=kp (Bk.new w (.cells #[.int .i64 0,.int .i64 0] 82));have hlt:=hm.lt;have HFr:=kp (hm.new_far (Nat.le_refl w.heap.size));have HC:=kp (op_any hF (hm.keep B1.out) 7 0 (I8.of (by decide) (by decide)) v0_VI.1 cl ((hl.on (Keeps.of_below B1.out _)).now) h3);generalize opM F.c 7 0 l st=res at *
 go_enter Tryz.func148,Tryz.ntmps148
 go_upto_region 1 with fail
 generalize w.alloc (.cells #[.int .i64 0,.int .i64 0] 82)=w1 at *;go_wp2_with fail
 refine HC.out.mono ?_;rintro e w7 ⟨rfl,hv,hk7,A7,c7,hm7,ht7⟩;have R7:=kp ((hk7.block w.heap.size (lt_of_block RB.out) (by unfold onMb;omega)).trans RB.out);have M7:=kp hm7;have K7:=kp ((Keeps.of_below B1.out (onMb F)).trans_same hk7);have HT7:=kp (ht7.mono B1.out.size);have HF7:=kp (Far.of_tn HFr.out ht7 (lt_of_block RB.out));unfold valV;clear hk7 hm7 ht7;obtain ⟨r0,r1,rf⟩:=Bk.c2 R7.out;go_wp2_with fail
 refine mk_end (v:=res.1) hF Tryz.results148 M7.out hlt K7.out HT7.out nlq HF7.out R7.out ?_ ?_ hv <;> rfl
theorem le_any {F:Fix} (hF:FixOk F) {w:World} {known:Int} {st:St} {At:Option Addr} {ct:Nat} (hm:Mk F w known st At ct) {L:Option Addr} {l:List V} (cl:Nat) (hl:ValsS F w L l) (h3:l.length<=3) :
  Calls Tryz.prog 149 #[.pointer (some ⟨F.mb,0,none⟩),.slice L l.length cl] w (MkPost F known w st.t At (opM F.c 8 0 l st).1 (opM F.c 8 0 l st).2):=by
 have B1:=kp ((brq w).alloc nlq (.cells #[.int .i64 0,.int .i64 0] 82));have RB:=kp (Bk.new w (.cells #[.int .i64 0,.int .i64 0] 82));have hlt:=hm.lt;have HFr:=kp (hm.new_far (Nat.le_refl w.heap.size));have HC:=kp (op_any hF (hm.keep B1.out) 8 0 (I8.of (by decide) (by decide)) v0_VI.1 cl ((hl.on (Keeps.of_below B1.out _)).now) h3);generalize opM F.c 8 0 l st=res at *
 go_enter Tryz.func149,Tryz.ntmps149
 go_upto_region 1 with fail
 generalize w.alloc (.cells #[.int .i64 0,.int .i64 0] 82)=w1 at *;go_wp2_with fail
 refine HC.out.mono ?_;rintro e w7 ⟨rfl,hv,hk7,A7,c7,hm7,ht7⟩;have R7:=kp ((hk7.block w.heap.size (lt_of_block RB.out) (by unfold onMb;omega)).trans RB.out);have M7:=kp hm7;have K7:=kp ((Keeps.of_below B1.out (onMb F)).trans_same hk7);have HT7:=kp (ht7.mono B1.out.size);have HF7:=kp (Far.of_tn HFr.out ht7 (lt_of_block RB.out));unfold valV;clear hk7 hm7 ht7;obtain ⟨r0,r1,rf⟩:=Bk.c2 R7.out;go_wp2_with fail
 refine mk_end (v:=res.1) hF Tryz.results149 M7.out hlt K7.out HT7.out nlq HF7.out R7.out ?_ ?_ hv <;> rfl
theorem lt_any {F:Fix} (hF:FixOk F) {w:World} {known:Int} {st:St} {At:Option Addr} {ct:Nat} (hm:Mk F w known st At ct) {L:Option Addr} {l:List V} (cl:Nat) (hl:ValsS F w L l) (h3:l.length<=3) :
  Calls Tryz.prog 150 #[.pointer (some ⟨F.mb,0,none⟩),.slice L l.length cl] w (MkPost F known w st.t At (opM F.c 9 0 l st).1 (opM F.c 9 0 l st).2):=by
 have B1:=kp ((brq w).alloc nlq (.cells #[.int .i64 0,.int .i64 0] 82));have RB:=kp (Bk.new w (.cells #[.int .i64 0,.int .i64 0] 82));have hlt:=hm.lt;have HFr:=kp (hm.new_far (Nat.le_refl w.heap.size));have HC:=kp (op_any hF (hm.keep B1.out) 9 0 (I8.of (by decide) (by decide)) v0_VI.1 cl ((hl.on (Keeps.of_below B1.out _)).now) h3);generalize opM F.c 9 0 l st=res at *
 go_enter Tryz.func150,Tryz.ntmps150
 go_upto_region 1 with fail
 generalize w.alloc (.cells #[.int .i64 0,.int .i64 0] 82)=w1 at *;go_wp2_with fail
 refine HC.out.mono ?_;rintro e w7 ⟨rfl,hv,hk7,A7,c7,hm7,ht7⟩;have R7:=kp ((hk7.block w.heap.size (lt_of_block RB.out) (by unfold onMb;omega)).trans RB.out);have M7:=kp hm7;have K7:=kp ((Keeps.of_below B1.out (onMb F)).trans_same hk7);have HT7:=kp (ht7.mono B1.out.size);have HF7:=kp (Far.of_tn HFr.out ht7 (lt_of_block RB.out));unfold valV;clear hk7 hm7 ht7;obtain ⟨r0,r1,rf⟩:=Bk.c2 R7.out;go_wp2_with fail
 refine mk_end (v:=res.1) hF Tryz.results150 M7.out hlt K7.out HT7.out nlq HF7.out R7.out ?_ ?_ hv <;> rfl
theorem Mk.other2 {F:Fix} (hF:FixOk F) {w:World} {known:Int} {st:St} {At:Option Addr} {ct:Nat} (h:Mk F w known st At ct) {k:Nat} (hk:F.mb < k) (hf:Far k st.t At) (u v:Value):Mk F ((w.setCell ⟨k,0,none⟩ u).setCell ⟨k,1,none⟩ v) known st At ct:=(h.other hF hk hf 0 u).other hF hk hf 1 v
theorem left_any {F:Fix} (hF:FixOk F) {w:World} {known:Int} {st:St} {At:Option Addr} {ct:Nat} (hm:Mk F w known st At ct) (op:Int) (hop:I8 op) {L:Option Addr} {l:List V} (cl:Nat) (hcl:l.length<=cl) (hl:ValsS F w L l) (h1:l≠[]) (hll:l.length<=8000000000000) :
  Calls Tryz.prog 176 #[.pointer (some ⟨F.mb,0,none⟩),.int .i8 op,.slice L l.length cl] w (MkPost F known w st.t At (headM F.c op l st).1 (headM F.c op l st).2):=by
 obtain ⟨x,r,rfl⟩:=List.exists_cons_of_ne_nil h1;have HS:=kp (show headM F.c op (x :: r) st=leftM F.c op x r st from rfl);have HLn:=kp (show(x :: r).length=r.length+1 from rfl);have hrl:r.length < 8000000000000:=by rw [HLn.out] at hll;omega
 have B1:=kp ((brq w).alloc nlq (.cells #[.int .i64 0,.int .i64 0] 82));have R1:=kp (Bk.new w (.cells #[.int .i64 0,.int .i64 0] 82));have hlt:=hm.lt;have HFr:=kp (hm.new_far (Nat.le_refl w.heap.size));have HFv:=kp (hm.new_far (show w.heap.size<=w.heap.size+1 by omega));have M1:=kp (hm.keep B1.out);have Z1:=kp (show(w.alloc (.cells #[.int .i64 0,.int .i64 0] 82)).heap.size=w.heap.size+1 by simp);have HLv:=kp hl;obtain ⟨b,o,rfl,_,_,_,hvx⟩:=val_get hl.now (k:=0) (v:=x) rfl;have HVx:=kp hvx;clear hvx hl hll h1;generalize headM F.c op (x :: r) st=res at *
 go_enter Tryz.func176,Tryz.ntmps176
 go_upto_region 1 with fail
 generalize w.alloc (.cells #[.int .i64 0,.int .i64 0] 82)=w1 at *;obtain ⟨b',o',hA,_,e0,e1,_⟩:=val_get (HLv.out.on (Keeps.of_below B1.out _)).now (k:=0) (v:=x) rfl;obtain ⟨rfl,rfl⟩:=aiq hA;rw [Nat.zero_mul,Nat.add_zero] at e0 e1;have V2:=kp (show(w1.alloc (.cells #[.int .i64 x.1,.int .i64 x.2] 82)).heap[w.heap.size+1]?=some (.cells #[.int .i64 x.1,.int .i64 x.2] 82 (0,0)) by have h:=Bk.new w1 (.cells #[.int .i64 x.1,.int .i64 x.2] 82);rwa [Z1.out] at h);have R2:=kp (Bk.keep R1.out (.cells #[.int .i64 x.1,.int .i64 x.2] 82));have M2:=kp (M1.out.keep ((brq w1).alloc nlq (.cells #[.int .i64 x.1,.int .i64 x.2] 82)));have K2:=kp (Keeps.of_below (B1.out.alloc B1.out.size (.cells #[.int .i64 x.1,.int .i64 x.2] 82)) (onMb F));have Z2:=kp (show w.heap.size+2<=(w1.alloc (.cells #[.int .i64 x.1,.int .i64 x.2] 82)).heap.size by simp [Z1.out]);have hpos:(0:Int) < ((x :: r).length:Int):=by rw [HLn.out];omega
 generalize hxn:(x :: r).length=xn at *;obtain rfl:xn=r.length+1:=HLn.out;go_upto_region 2 with fail
 try rw [Z1.out]
 generalize w1.alloc (.cells #[.int .i64 x.1,.int .i64 x.2] 82)=w2 at *;clear e0 e1 hxn;have HCl:=kp hcl
 by_cases hc1:cl=1
 ·subst hc1;obtain rfl:r=[]:=List.length_eq_zero_iff.1 (by omega);replace HS:=kp (show res=(x,st) from HS.out);go_wp2_with fail
  go_loopw [16] (fun i' wr=>i'=.int .i64 0/\w2=wr) (fun _ _=>0)
  case atStart=>exact⟨rfl,rfl⟩
  case round =>
   obtain ⟨rfl,rfl⟩:=hrel;obtain ⟨v0',v1',vf⟩:=Bk.c2 V2.out;obtain ⟨r0,r1,rf⟩:=Bk.c2 R2.out;go_wp2_with fail
   rw [HS.out];refine mk_end (v:=x) hF Tryz.results176 M2.out hlt K2.out (TN.refl _ _ _) nlq HFr.out R2.out ?_ ?_ HVx.out <;> rfl
 ·have hcl2:1<=cl:=by omega
  go_wp2_with fail
  go_loopw [16] (fun i' wr=>∃ (k:Nat) (v:V) (st':St) (A':Option Addr) (c':Nat),k<=r.length/\i'=.int .i64 k/\res=leftM F.c op v (r.drop k) st'/\VI v/\Keeps (onMb F) w wr/\Mk F wr known st' A' c'/\TN (w.heap.size+2) st.t At st'.t A'/\w.heap.size+2<=wr.heap.size/\wr.heap[w.heap.size]?=some (.cells #[.int .i64 0,.int .i64 0] 82 (0,0))/\wr.heap[w.heap.size+1]?=some (.cells #[.int .i64 v.1,.int .i64 v.2] 82 (0,0))) (fun i' _=>r.length - (intOf i').toNat)
  case atStart=>exact⟨0,x,st,At,ct,Nat.zero_le _,rfl,HS.out,HVx.out,K2.out,M2.out,TN.refl _ _ _,Z2.out,R2.out,V2.out⟩
  case round =>
   obtain ⟨k,v,st',A',c',hk,rfl,hres,hv,hkk,hmk,htn,hz,hrb,hvb⟩:=hrel;have HRes:=kp hres;have HV:=kp hv;have KR:=kp hkk;have MR:=kp hmk;have TR:=kp htn;have ZR:=kp hz;have RR:=kp hrb;have VR:=kp hvb;clear hres hv hkk hmk htn hz hrb hvb
   by_cases hkl:k < r.length
   ·have hlt2:(k:Int) < (r.length:Int):=by omega
    obtain ⟨y,hy⟩:∃ y,r[k]?=some y:=⟨_,gqe hkl⟩
    have HDr:=kp (show r.drop k=y :: r.drop (k+1) by
     rw [List.drop_eq_getElem_cons hkl];rw [gqe hkl] at hy;simp at hy;rw [hy])
    rw [HDr.out] at HRes;replace HRes:=kp (show res=leftM F.c op (opM F.c op 0 [v,y] st').1 (r.drop (k+1)) (opM F.c op 0 [v,y] st').2 from HRes.out);obtain ⟨b2,o2,hA,_,e0,e1,hvy⟩:=val_get (HLv.out.on KR.out).now (k:=k+1) (v:=y) (by simpa using hy);obtain ⟨rfl,rfl⟩:=aiq hA;rw [show o+(k+1) * 2=o+2+k * 2 by omega] at e0 e1;have HY:=kp hvy;have BA:=kp ((brq wr).alloc nlq (.cells #[.int .i64 y.1,.int .i64 y.2] 82));have RA:=kp (Bk.keep RR.out (.cells #[.int .i64 y.1,.int .i64 y.2] 82));have VA:=kp (Bk.keep VR.out (.cells #[.int .i64 y.1,.int .i64 y.2] 82));have YA:=kp (Bk.new wr (.cells #[.int .i64 y.1,.int .i64 y.2] 82));clear hvy hy;go_upto_region 5 with fail
    generalize hwa:wr.alloc (.cells #[.int .i64 y.1,.int .i64 y.2] 82)=wa at *;clear hwa e0 e1;have BB:=kp (BA.out.alloc BA.out.size (.cells #[.int .i64 v.1,.int .i64 v.2,.int .i64 y.1,.int .i64 y.2] 82));have RB:=kp (Bk.keep RA.out (.cells #[.int .i64 v.1,.int .i64 v.2,.int .i64 y.1,.int .i64 y.2] 82));have VB:=kp (Bk.keep VA.out (.cells #[.int .i64 v.1,.int .i64 v.2,.int .i64 y.1,.int .i64 y.2] 82));have LB:=kp (lies_two (Bk.new wa (.cells #[.int .i64 v.1,.int .i64 v.2,.int .i64 y.1,.int .i64 y.2] 82)) HV.out HY.out);have HOp:=kp (op_any hF (MR.out.keep BB.out) op 0 hop v0_VI.1 2 LB.out (Nat.le_succ 2));generalize opM F.c op 0 [v,y] st'=pr at *;obtain ⟨pv,ps⟩:=pr;obtain ⟨v0',v1',vf⟩:=Bk.c2 VA.out;obtain ⟨y0',y1',yf⟩:=Bk.c2 YA.out;go_wp2_with fail
    refine HOp.out.mono ?_;rintro e w7 ⟨rfl,hv,hk7,A7,c7,hm7,ht7⟩;have hne0:w.heap.size≠F.mb:=by omega
    have hne1:w.heap.size+1≠F.mb:=by omega
    have R7:=kp ((hk7.block w.heap.size (lt_of_block RB.out) hne0).trans RB.out);have V7:=kp ((hk7.block (w.heap.size+1) (lt_of_block VB.out) hne1).trans VB.out);have Z7:=kp (Nat.le_trans ZR.out (Nat.le_trans BB.out.size hk7.size));have T7:=kp (TR.out.trans ht7 (by have:=ZR.out;have:=BB.out.size;omega));have F7:=kp (Far.of_tn HFv.out T7.out (by omega));have M7:=kp (Mk.other2 hF hm7 (show F.mb < w.heap.size+1 by omega) F7.out (.int .i64 pv.1) (.int .i64 pv.2));have K7:=kp ((((KR.out.trans_same (Keeps.of_below BB.out _)).trans_same hk7).setCell (p:=⟨w.heap.size+1,0,none⟩) (.inr (Nat.le_succ _)) (.int .i64 pv.1)).setCell (p:=⟨w.heap.size+1,1,none⟩) (.inr (Nat.le_succ _)) (.int .i64 pv.2));have V8:=kp (Bk.set_at (Bk.set_at V7.out 0 (.int .i64 pv.1)) 1 (.int .i64 pv.2));have R8:=kp (Bk.apart (Bk.apart R7.out (p:=⟨w.heap.size+1,0,none⟩) (by show w.heap.size≠w.heap.size+1;omega) (.int .i64 pv.1)) (p:=⟨w.heap.size+1,1,none⟩) (by show w.heap.size≠w.heap.size+1;omega) (.int .i64 pv.2));have HPv:=kp hv;unfold valV;clear hk7 hm7 ht7 hv v0' v1' vf y0' y1' yf;obtain ⟨v0',v1',vf⟩:=Bk.c2 V7.out;go_wp2_with fail
    go_roundw
    case rel=>exact⟨k+1,pv,ps,A7,c7,by omega,by go_num,HRes.out,HPv.out,K7.out,M7.out,T7.out,by have:=Z7.out;simpa [World.setCell] using this,R8.out,V8.out⟩
    case measure=>simp [intOf];omega
   ·obtain rfl:k=r.length:=by omega
    replace HRes:=kp (show res=(v,st') by rw [HRes.out,List.drop_length];rfl);have FR:=kp (Far.of_tn HFr.out TR.out (by omega));obtain ⟨v0',v1',vf⟩:=Bk.c2 VR.out;obtain ⟨r0,r1,rf⟩:=Bk.c2 RR.out;go_wp2_with fail
    rw [HRes.out];refine mk_end (v:=v) hF Tryz.results176 MR.out hlt KR.out (TR.out.mono (by omega)) nlq FR.out RR.out ?_ ?_ HV.out <;> rfl
end El
end Go.Proofs.YtpmdcckapddchaaGreatDoor
