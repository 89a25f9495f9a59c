import Derived.Test.YtmcbolkpbklfeaaGreatDoorShort
import Derived.Test.YtmcbolkpbklfeaaGreatDoorMze
import Derived.Test.YtmcbolkpbklfeaaGreatDoorMf
import Derived.Deep.CutRange
/- merged by wip/merge.py from: SxOne -/
set_option maxRecDepth 100000
set_option maxHeartbeats 51200000
namespace Go.Proofs.YtmcbolkpbklfeaaGreatDoor
namespace Dt
open Go.RowKit
def TokCut (W:World) (k:Int) (t:ByteArray) (q e:Int) (v3 v4 v5:Value) (V:World):Prop :=
 ∃ tb,v3=.pointer (some ⟨tb,0,none⟩)/\v4=.bool true/\v5=.int .i64 0/\V.heap[tb]?=some (.cells #[.int .i8 k,.string t,.int .i64 q,.int .i64 e] 152 (0,0))/\W.heap.size<=tb/\Below W.heap.size W V
def OnePost (w:World) (rb:Nat) (s:ByteArray) (x:Sexp) (b:Nat) (e:Ending) (w':World):Prop :=
 ∃ A c,e=.returned (.agg #[.int .i8 x.kind,.string x.text,.slice A x.l.length c])/\InOk sxOk w.heap.size w'.heap.size w' (x,A,c)/\w'.heap[rb]?=some (.cells #[.string s,.int .i64 b,.int .i64 0] 122 (0,0))/\Keeps (fun k=>k=rb) w w'
theorem one_ret {f:Func} {w:World} {b:Nat} {r0 r1 r2:Value} {act:Act} {t:TypeId} {R:Ending->World->Prop} (hf:f.results=#[.cell 2 81]) (hb:w.heap[b]?=some (.cells #[r0,r1,r2] t (0,0))) (h2:act.tmps[2]?=some (.pointer (some ⟨b,0,none⟩))) (hd:act.defers=[]) (hR:R (.returned (.agg #[r0,r1,r2])) w) :
  bodyPost Tryz.prog f R .ret act w:=by
 obtain ⟨y0,y1,y2,_⟩:=Bk.c3 hb;refine bodyPost_ret (v:=.agg #[r0,r1,r2]) ?_ hd hR;simp [results,hf,go_sem,y0,y1,y2,h2]
theorem set3'_apart {w:World} {k b:Nat} {x:Obj} (h:w.heap[k]?=some x) (hn:k≠b) (v0 v1 v2:Value):(set3' w b v0 v1 v2).heap[k]?=some x :=
 Bk.apart (Bk.apart (Bk.apart h (p:=⟨b,0,none⟩) hn _) (p:=⟨b,1,none⟩) hn _) (p:=⟨b,2,none⟩) hn _
theorem one_name (t:List UInt8) (tx:ByteArray) (ht:Lx.bs tx=t) (s:ByteArray) (p:Nat) (w:World) (rb:Nat) (r:List UInt8) (hp:p<=s.size) (hs:s.size<=100000) (hn:nextL (skipL false (from_ s p))=.tok 2 t r) (hrb:w.heap[rb]?=some (.cells #[.string s,.int .i64 p,.int .i64 0] 122 (0,0))) :
  Calls Tryz.prog 62 #[.pointer (some ⟨rb,0,none⟩)] w (OnePost w rb s (.mk 0 tx []) (at_ s r)):=by
 have HN:=kp (fun W=>next_any s p W hp (by omega) 2 t r hn)
 have HLen:=kp (show(tx.size:Int)<=140737488351232 by
  have h1:=nextL_text hn;rw [← ht,Lx.bs_length] at h1
  omega)
 have HTx:=kp (show(⟨t.toArray⟩:ByteArray)=tx by apply Lx.bs_inj.1;rw [Lx.bs_mk,ht]);have HPs:=kp (show at_ s r<=s.size by unfold at_;omega);generalize skipP s p=q at *;generalize at_ s r=e0 at *;clear hn ht hp;unfold TokPost at HN;rw [show(⟨t.toArray⟩:ByteArray)=tx from HTx.out] at HN;clear HTx;have RB0:=kp (Bk.keep hrb (.cells #[.int .i8 0,.string { data:=#[] },.slice none 0 0] 81));have XB0:=kp (Bk.new w (.cells #[.int .i8 0,.string { data:=#[] },.slice none 0 0] 81));have B1:=kp ((brq w).alloc nlq (.cells #[.int .i8 0,.string { data:=#[] },.slice none 0 0] 81));have HRw:=kp (lt_of_block hrb);clear hrb
 go_enter Tryz.func62,Tryz.ntmps62
 go_upto_region 1 with fail
 generalize w.alloc (.cells #[.int .i8 0,.string { data:=#[] },.slice none 0 0] 81)=w1 at *;have HXw:=kp (lt_of_block XB0.out)
 go_cut [3,4,5] from 10 to 22 (fun v3 v4 v5 V=>TokCut w1 2 tx (q:Int) (e0:Int) v3 v4 v5 V)
 case first =>
  have B0:=kp (brq w1).drew;refine wp_region_held_drew (S:=fun V=>Below w1.heap.size w1 V) (by kernel_rfl) (B0.out) (fun hHeld=>?_);refine plz [0,1,2,3,4,5,6,7] ?_;iterate 8 (refine tnz (v:=?_) ?_ ?_;rotate_left;(focus first | ((intro w hSw;go_simp;try with_reducible rfl);done) | ((intro w hSw;(obtain ⟨r0,r1,r2,rf⟩:=Bk.c3 (Bk.on RB0.out hSw);go_simp;try with_reducible rfl));done));try simp only [pt])
  refine pzz ?_;generalize hwd:World.drew _=wd at *;clear hwd;refine r2y 8 13 (fun K hK=>?_) fun K hK=>?_
  ·skip;go_simp
   go_wp2_with (go_at_call 105;refine(HN.out _).mono ?_;rintro e Wa ⟨rfl,hb⟩;have Ba:=kp (B0.out.trans (hb.mono B0.out.size));clear hb)
   refine hK.out _ _ Ba.out (fun hHeld=>?_);clear hK K;try simp only [pt]
   refine plz [9,10,11,12] ?_;iterate 4 (refine tnz (v:=?_) ?_ ?_;rotate_left;(focus (intro w hSw;go_simp;try with_reducible rfl));try simp only [pt])
   refine pzz ?_;have BA:=kp (Ba.out.alloc Ba.out.size (.cells #[.int .i8 0,.string { data:=#[] },.int .i64 0,.int .i64 0] 152));have XA:=kp (Bk.new Wa (.cells #[.int .i8 0,.string { data:=#[] },.int .i64 0,.int .i64 0] 152));have hxs:=Ba.out.size;refine rd 13 fun K hK=>?_;go_simp;refine hK.out _ _ (BA.out) (fun hHeld=>?_);clear hK K;try simp only [pt]
   generalize Wa.alloc (.cells #[.int .i8 0,.string { data:=#[] },.int .i64 0,.int .i64 0] 152)=wa at *;generalize Wa.heap.size=tb at *;obtain ⟨x0,x1,x2,x3,xf⟩:=Bk.c4 XA.out;refine rd 14 fun K hK=>?_;go_simp;refine hK.out _ _ ((set4t_below BA.out hxs _ _ _ _)) (fun hHeld=>?_);clear hK K;try simp only [pt]
   refine plz [15,16] ?_;iterate 2 (refine tnz (v:=?_) ?_ ?_;rotate_left;(focus (intro w hSw;go_simp;try with_reducible rfl));try simp only [pt])
   refine pzz ?_;refine dnz ?_;clear hHeld;go_wp2_with fail
   go_meet;exact⟨_,rfl,rfl,rfl,set4t_at XA.out _ _ _ _,hxs,set4t_below BA.out hxs _ _ _ _⟩
  ·skip;have BA:=kp (B0.out.alloc B0.out.size (.cells #[.int .i8 0,.string { data:=#[] },.int .i64 0,.int .i64 0] 152));have XA:=kp (Bk.new wd (.cells #[.int .i8 0,.string { data:=#[] },.int .i64 0,.int .i64 0] 152));have hxs:=B0.out.size;go_simp;refine hK.out _ _ BA.out (fun hHeld=>?_);clear hK K;try simp only [pt]
   generalize wd.alloc (.cells #[.int .i8 0,.string { data:=#[] },.int .i64 0,.int .i64 0] 152)=wa at *;generalize wd.heap.size=tb at *;refine rd 8 fun K hK=>?_;go_simp
   go_wp2_with (go_at_call 105;refine(HN.out _).mono ?_;rintro e Wa ⟨rfl,hb⟩;have XB:=kp (Bk.on XA.out hb);have Ba:=kp (BA.out.trans (hb.mono BA.out.size));clear hb)
   refine hK.out _ _ (Ba.out) (fun hHeld=>?_);clear hK K;try simp only [pt]
   refine plz [9,10,11,12] ?_;iterate 4 (refine tnz (v:=?_) ?_ ?_;rotate_left;(focus (intro w hSw;go_simp;try with_reducible rfl));try simp only [pt])
   refine pzz ?_;obtain ⟨x0,x1,x2,x3,xf⟩:=Bk.c4 XB.out;refine rd 14 fun K hK=>?_;go_simp;refine hK.out _ _ ((set4t_below Ba.out hxs _ _ _ _)) (fun hHeld=>?_);clear hK K;try simp only [pt]
   refine plz [15,16] ?_;iterate 2 (refine tnz (v:=?_) ?_ ?_;rotate_left;(focus (intro w hSw;go_simp;try with_reducible rfl));try simp only [pt])
   refine pzz ?_;refine dnz ?_;clear hHeld;go_wp2_with fail
   go_meet;exact⟨_,rfl,rfl,rfl,set4t_at XB.out _ _ _ _,hxs,set4t_below Ba.out hxs _ _ _ _⟩
 case rest =>
  obtain ⟨tb,rfl,rfl,rfl,hT,hle,hb⟩:=hcut;have TB:=kp hT;have RB2:=kp (Bk.on RB0.out hb);have XB2:=kp (Bk.on XB0.out hb);have B2:=kp (B1.out.trans (hb.mono B1.out.size));have HTw:=kp hle;clear hT hle hb;generalize hwb:wc=w2 at *;clear hwb;obtain ⟨t0,t1,t2,t3,tf⟩:=Bk.c4 TB.out;obtain ⟨x0,x1,x2,xf⟩:=Bk.c3 XB2.out;obtain ⟨r0,r1,r2,rf⟩:=Bk.c3 RB2.out;have hn1:tb≠w.heap.size:=by have:=HTw.out;have:=HXw.out;omega
  have hn2:rb≠w.heap.size:=by have:=HRw.out;omega
  have hn3:rb≠tb:=by have:=HRw.out;have:=HTw.out;have:=HXw.out;omega
  have hn4:w.heap.size≠tb:=by have:=HTw.out;have:=HXw.out;omega
  have hn5:w.heap.size≠rb:=by have:=HRw.out;omega
  go_wp2_with fail
  go_loopw [] (fun wr=>wr.heap[w.heap.size]?=some (.cells #[.int .i8 0,.string tx,.slice none 0 0] 81 (0,0))/\wr.heap[rb]?=some (.cells #[.string s,.int .i64 e0,.int .i64 0] 122 (0,0))/\Keeps (fun k=>k=rb) w wr) (fun _=>0)
  case atStart=>exact⟨Bk.apart (Bk.set_at XB2.out 1 _) hn5 _,Bk.set_at (Bk.apart RB2.out hn2 _) 1 _,((Keeps.of_below B2.out (fun k=>k=rb)).setCell (.inr nlq) _).setCell (p:=⟨rb,1,none⟩) (.inl rfl) _⟩
  case round =>
   have XF:=kp hrel.1;have RF:=kp hrel.2.1;have KF:=kp hrel.2.2;clear hrel x0 x1 x2 xf r0 r1 r2 rf t0 t1 t2 t3 tf;obtain ⟨x0,x1,x2,xf⟩:=Bk.c3 XF.out;go_wp2_with fail
   have KS:=set3'_keeps (S:=fun k=>k=rb) KF.out (b:=w.heap.size) (.inr nlq) (.int .i8 0) (.string tx) (.slice none 0 0);exact one_ret (w:=set3' wr w.heap.size _ _ _) Tryz.results62 (set3'_at XF.out _ _ _) rfl rfl ⟨none,0,rfl,⟨KS.size,nlq,fun V _=>SexpR.make (w:=V) (A:=none) (k:=0) (t:=tx) (c:=0) (l:=[]) (.inl rfl) (Nat.zero_le _) (Nat.zero_le _) HLen.out (by simp) (by decide)⟩,set3'_apart RF.out hn2 _ _ _,KS⟩
theorem one_num (t:List UInt8) (tx:ByteArray) (ht:Lx.bs tx=t) (s:ByteArray) (p:Nat) (w:World) (rb:Nat) (r:List UInt8) (hp:p<=s.size) (hs:s.size<=100000) (hn:nextL (skipL false (from_ s p))=.tok 3 t r) (hrb:w.heap[rb]?=some (.cells #[.string s,.int .i64 p,.int .i64 0] 122 (0,0))) :
  Calls Tryz.prog 62 #[.pointer (some ⟨rb,0,none⟩)] w (OnePost w rb s (.mk 1 tx []) (at_ s r)):=by
 have HN:=kp (fun W=>next_any s p W hp (by omega) 3 t r hn)
 have HLen:=kp (show(tx.size:Int)<=140737488351232 by
  have h1:=nextL_text hn;rw [← ht,Lx.bs_length] at h1
  omega)
 have HTx:=kp (show(⟨t.toArray⟩:ByteArray)=tx by apply Lx.bs_inj.1;rw [Lx.bs_mk,ht]);have HPs:=kp (show at_ s r<=s.size by unfold at_;omega);generalize skipP s p=q at *;generalize at_ s r=e0 at *;clear hn ht hp;unfold TokPost at HN;rw [show(⟨t.toArray⟩:ByteArray)=tx from HTx.out] at HN;clear HTx;have RB0:=kp (Bk.keep hrb (.cells #[.int .i8 0,.string { data:=#[] },.slice none 0 0] 81));have XB0:=kp (Bk.new w (.cells #[.int .i8 0,.string { data:=#[] },.slice none 0 0] 81));have B1:=kp ((brq w).alloc nlq (.cells #[.int .i8 0,.string { data:=#[] },.slice none 0 0] 81));have HRw:=kp (lt_of_block hrb);clear hrb
 go_enter Tryz.func62,Tryz.ntmps62
 go_upto_region 1 with fail
 generalize w.alloc (.cells #[.int .i8 0,.string { data:=#[] },.slice none 0 0] 81)=w1 at *;have HXw:=kp (lt_of_block XB0.out)
 go_cut [3,4,5] from 10 to 22 (fun v3 v4 v5 V=>TokCut w1 3 tx (q:Int) (e0:Int) v3 v4 v5 V)
 case first =>
  have B0:=kp (brq w1).drew;refine wp_region_held_drew (S:=fun V=>Below w1.heap.size w1 V) (by kernel_rfl) (B0.out) (fun hHeld=>?_);refine plz [0,1,2,3,4,5,6,7] ?_;iterate 8 (refine tnz (v:=?_) ?_ ?_;rotate_left;(focus first | ((intro w hSw;go_simp;try with_reducible rfl);done) | ((intro w hSw;(obtain ⟨r0,r1,r2,rf⟩:=Bk.c3 (Bk.on RB0.out hSw);go_simp;try with_reducible rfl));done));try simp only [pt])
  refine pzz ?_;generalize hwd:World.drew _=wd at *;clear hwd;refine r2y 8 13 (fun K hK=>?_) fun K hK=>?_
  ·skip;go_simp
   go_wp2_with (go_at_call 105;refine(HN.out _).mono ?_;rintro e Wa ⟨rfl,hb⟩;have Ba:=kp (B0.out.trans (hb.mono B0.out.size));clear hb)
   refine hK.out _ _ Ba.out (fun hHeld=>?_);clear hK K;try simp only [pt]
   refine plz [9,10,11,12] ?_;iterate 4 (refine tnz (v:=?_) ?_ ?_;rotate_left;(focus (intro w hSw;go_simp;try with_reducible rfl));try simp only [pt])
   refine pzz ?_;have BA:=kp (Ba.out.alloc Ba.out.size (.cells #[.int .i8 0,.string { data:=#[] },.int .i64 0,.int .i64 0] 152));have XA:=kp (Bk.new Wa (.cells #[.int .i8 0,.string { data:=#[] },.int .i64 0,.int .i64 0] 152));have hxs:=Ba.out.size;refine rd 13 fun K hK=>?_;go_simp;refine hK.out _ _ (BA.out) (fun hHeld=>?_);clear hK K;try simp only [pt]
   generalize Wa.alloc (.cells #[.int .i8 0,.string { data:=#[] },.int .i64 0,.int .i64 0] 152)=wa at *;generalize Wa.heap.size=tb at *;obtain ⟨x0,x1,x2,x3,xf⟩:=Bk.c4 XA.out;refine rd 14 fun K hK=>?_;go_simp;refine hK.out _ _ ((set4t_below BA.out hxs _ _ _ _)) (fun hHeld=>?_);clear hK K;try simp only [pt]
   refine plz [15,16] ?_;iterate 2 (refine tnz (v:=?_) ?_ ?_;rotate_left;(focus (intro w hSw;go_simp;try with_reducible rfl));try simp only [pt])
   refine pzz ?_;refine dnz ?_;clear hHeld;go_wp2_with fail
   go_meet;exact⟨_,rfl,rfl,rfl,set4t_at XA.out _ _ _ _,hxs,set4t_below BA.out hxs _ _ _ _⟩
  ·skip;have BA:=kp (B0.out.alloc B0.out.size (.cells #[.int .i8 0,.string { data:=#[] },.int .i64 0,.int .i64 0] 152));have XA:=kp (Bk.new wd (.cells #[.int .i8 0,.string { data:=#[] },.int .i64 0,.int .i64 0] 152));have hxs:=B0.out.size;go_simp;refine hK.out _ _ BA.out (fun hHeld=>?_);clear hK K;try simp only [pt]
   generalize wd.alloc (.cells #[.int .i8 0,.string { data:=#[] },.int .i64 0,.int .i64 0] 152)=wa at *;generalize wd.heap.size=tb at *;refine rd 8 fun K hK=>?_;go_simp
   go_wp2_with (go_at_call 105;refine(HN.out _).mono ?_;rintro e Wa ⟨rfl,hb⟩;have XB:=kp (Bk.on XA.out hb);have Ba:=kp (BA.out.trans (hb.mono BA.out.size));clear hb)
   refine hK.out _ _ (Ba.out) (fun hHeld=>?_);clear hK K;try simp only [pt]
   refine plz [9,10,11,12] ?_;iterate 4 (refine tnz (v:=?_) ?_ ?_;rotate_left;(focus (intro w hSw;go_simp;try with_reducible rfl));try simp only [pt])
   refine pzz ?_;obtain ⟨x0,x1,x2,x3,xf⟩:=Bk.c4 XB.out;refine rd 14 fun K hK=>?_;go_simp;refine hK.out _ _ ((set4t_below Ba.out hxs _ _ _ _)) (fun hHeld=>?_);clear hK K;try simp only [pt]
   refine plz [15,16] ?_;iterate 2 (refine tnz (v:=?_) ?_ ?_;rotate_left;(focus (intro w hSw;go_simp;try with_reducible rfl));try simp only [pt])
   refine pzz ?_;refine dnz ?_;clear hHeld;go_wp2_with fail
   go_meet;exact⟨_,rfl,rfl,rfl,set4t_at XB.out _ _ _ _,hxs,set4t_below Ba.out hxs _ _ _ _⟩
 case rest =>
  obtain ⟨tb,rfl,rfl,rfl,hT,hle,hb⟩:=hcut;have TB:=kp hT;have RB2:=kp (Bk.on RB0.out hb);have XB2:=kp (Bk.on XB0.out hb);have B2:=kp (B1.out.trans (hb.mono B1.out.size));have HTw:=kp hle;clear hT hle hb;generalize hwb:wc=w2 at *;clear hwb;obtain ⟨t0,t1,t2,t3,tf⟩:=Bk.c4 TB.out;obtain ⟨x0,x1,x2,xf⟩:=Bk.c3 XB2.out;obtain ⟨r0,r1,r2,rf⟩:=Bk.c3 RB2.out;have hn1:tb≠w.heap.size:=by have:=HTw.out;have:=HXw.out;omega
  have hn2:rb≠w.heap.size:=by have:=HRw.out;omega
  have hn3:rb≠tb:=by have:=HRw.out;have:=HTw.out;have:=HXw.out;omega
  have hn4:w.heap.size≠tb:=by have:=HTw.out;have:=HXw.out;omega
  have hn5:w.heap.size≠rb:=by have:=HRw.out;omega
  go_wp2_with fail
  go_loopw [] (fun wr=>wr.heap[w.heap.size]?=some (.cells #[.int .i8 1,.string tx,.slice none 0 0] 81 (0,0))/\wr.heap[rb]?=some (.cells #[.string s,.int .i64 e0,.int .i64 0] 122 (0,0))/\Keeps (fun k=>k=rb) w wr) (fun _=>0)
  case atStart=>exact⟨Bk.apart (Bk.set_at (Bk.set_at XB2.out 0 _) 1 _) hn5 _,Bk.set_at (Bk.apart (Bk.apart RB2.out hn2 _) hn2 _) 1 _,(((Keeps.of_below B2.out (fun k=>k=rb)).setCell (.inr nlq) _).setCell (.inr nlq) _).setCell (p:=⟨rb,1,none⟩) (.inl rfl) _⟩
  case round =>
   have XF:=kp hrel.1;have RF:=kp hrel.2.1;have KF:=kp hrel.2.2;clear hrel x0 x1 x2 xf r0 r1 r2 rf t0 t1 t2 t3 tf;obtain ⟨x0,x1,x2,xf⟩:=Bk.c3 XF.out;go_wp2_with fail
   have KS:=set3'_keeps (S:=fun k=>k=rb) KF.out (b:=w.heap.size) (.inr nlq) (.int .i8 1) (.string tx) (.slice none 0 0);exact one_ret (w:=set3' wr w.heap.size _ _ _) Tryz.results62 (set3'_at XF.out _ _ _) rfl rfl ⟨none,0,rfl,⟨KS.size,nlq,fun V _=>SexpR.make (w:=V) (A:=none) (k:=1) (t:=tx) (c:=0) (l:=[]) (.inl rfl) (Nat.zero_le _) (Nat.zero_le _) HLen.out (by simp) (by decide)⟩,set3'_apart RF.out hn2 _ _ _,KS⟩
theorem one_key (t:List UInt8) (tx:ByteArray) (ht:Lx.bs tx=t) (s:ByteArray) (p:Nat) (w:World) (rb:Nat) (r:List UInt8) (hp:p<=s.size) (hs:s.size<=100000) (hn:nextL (skipL false (from_ s p))=.tok 4 t r) (hrb:w.heap[rb]?=some (.cells #[.string s,.int .i64 p,.int .i64 0] 122 (0,0))) :
  Calls Tryz.prog 62 #[.pointer (some ⟨rb,0,none⟩)] w (OnePost w rb s (.mk 2 tx []) (at_ s r)):=by
 have HN:=kp (fun W=>next_any s p W hp (by omega) 4 t r hn)
 have HLen:=kp (show(tx.size:Int)<=140737488351232 by
  have h1:=nextL_text hn;rw [← ht,Lx.bs_length] at h1
  omega)
 have HTx:=kp (show(⟨t.toArray⟩:ByteArray)=tx by apply Lx.bs_inj.1;rw [Lx.bs_mk,ht]);have HPs:=kp (show at_ s r<=s.size by unfold at_;omega);generalize skipP s p=q at *;generalize at_ s r=e0 at *;clear hn ht hp;unfold TokPost at HN;rw [show(⟨t.toArray⟩:ByteArray)=tx from HTx.out] at HN;clear HTx;have RB0:=kp (Bk.keep hrb (.cells #[.int .i8 0,.string { data:=#[] },.slice none 0 0] 81));have XB0:=kp (Bk.new w (.cells #[.int .i8 0,.string { data:=#[] },.slice none 0 0] 81));have B1:=kp ((brq w).alloc nlq (.cells #[.int .i8 0,.string { data:=#[] },.slice none 0 0] 81));have HRw:=kp (lt_of_block hrb);clear hrb
 go_enter Tryz.func62,Tryz.ntmps62
 go_upto_region 1 with fail
 generalize w.alloc (.cells #[.int .i8 0,.string { data:=#[] },.slice none 0 0] 81)=w1 at *;have HXw:=kp (lt_of_block XB0.out)
 go_cut [3,4,5] from 10 to 22 (fun v3 v4 v5 V=>TokCut w1 4 tx (q:Int) (e0:Int) v3 v4 v5 V)
 case first =>
  have B0:=kp (brq w1).drew;refine wp_region_held_drew (S:=fun V=>Below w1.heap.size w1 V) (by kernel_rfl) (B0.out) (fun hHeld=>?_);refine plz [0,1,2,3,4,5,6,7] ?_;iterate 8 (refine tnz (v:=?_) ?_ ?_;rotate_left;(focus first | ((intro w hSw;go_simp;try with_reducible rfl);done) | ((intro w hSw;(obtain ⟨r0,r1,r2,rf⟩:=Bk.c3 (Bk.on RB0.out hSw);go_simp;try with_reducible rfl));done));try simp only [pt])
  refine pzz ?_;generalize hwd:World.drew _=wd at *;clear hwd;refine r2y 8 13 (fun K hK=>?_) fun K hK=>?_
  ·skip;go_simp
   go_wp2_with (go_at_call 105;refine(HN.out _).mono ?_;rintro e Wa ⟨rfl,hb⟩;have Ba:=kp (B0.out.trans (hb.mono B0.out.size));clear hb)
   refine hK.out _ _ Ba.out (fun hHeld=>?_);clear hK K;try simp only [pt]
   refine plz [9,10,11,12] ?_;iterate 4 (refine tnz (v:=?_) ?_ ?_;rotate_left;(focus (intro w hSw;go_simp;try with_reducible rfl));try simp only [pt])
   refine pzz ?_;have BA:=kp (Ba.out.alloc Ba.out.size (.cells #[.int .i8 0,.string { data:=#[] },.int .i64 0,.int .i64 0] 152));have XA:=kp (Bk.new Wa (.cells #[.int .i8 0,.string { data:=#[] },.int .i64 0,.int .i64 0] 152));have hxs:=Ba.out.size;refine rd 13 fun K hK=>?_;go_simp;refine hK.out _ _ (BA.out) (fun hHeld=>?_);clear hK K;try simp only [pt]
   generalize Wa.alloc (.cells #[.int .i8 0,.string { data:=#[] },.int .i64 0,.int .i64 0] 152)=wa at *;generalize Wa.heap.size=tb at *;obtain ⟨x0,x1,x2,x3,xf⟩:=Bk.c4 XA.out;refine rd 14 fun K hK=>?_;go_simp;refine hK.out _ _ ((set4t_below BA.out hxs _ _ _ _)) (fun hHeld=>?_);clear hK K;try simp only [pt]
   refine plz [15,16] ?_;iterate 2 (refine tnz (v:=?_) ?_ ?_;rotate_left;(focus (intro w hSw;go_simp;try with_reducible rfl));try simp only [pt])
   refine pzz ?_;refine dnz ?_;clear hHeld;go_wp2_with fail
   go_meet;exact⟨_,rfl,rfl,rfl,set4t_at XA.out _ _ _ _,hxs,set4t_below BA.out hxs _ _ _ _⟩
  ·skip;have BA:=kp (B0.out.alloc B0.out.size (.cells #[.int .i8 0,.string { data:=#[] },.int .i64 0,.int .i64 0] 152));have XA:=kp (Bk.new wd (.cells #[.int .i8 0,.string { data:=#[] },.int .i64 0,.int .i64 0] 152));have hxs:=B0.out.size;go_simp;refine hK.out _ _ BA.out (fun hHeld=>?_);clear hK K;try simp only [pt]
   generalize wd.alloc (.cells #[.int .i8 0,.string { data:=#[] },.int .i64 0,.int .i64 0] 152)=wa at *;generalize wd.heap.size=tb at *;refine rd 8 fun K hK=>?_;go_simp
   go_wp2_with (go_at_call 105;refine(HN.out _).mono ?_;rintro e Wa ⟨rfl,hb⟩;have XB:=kp (Bk.on XA.out hb);have Ba:=kp (BA.out.trans (hb.mono BA.out.size));clear hb)
   refine hK.out _ _ (Ba.out) (fun hHeld=>?_);clear hK K;try simp only [pt]
   refine plz [9,10,11,12] ?_;iterate 4 (refine tnz (v:=?_) ?_ ?_;rotate_left;(focus (intro w hSw;go_simp;try with_reducible rfl));try simp only [pt])
   refine pzz ?_;obtain ⟨x0,x1,x2,x3,xf⟩:=Bk.c4 XB.out;refine rd 14 fun K hK=>?_;go_simp;refine hK.out _ _ ((set4t_below Ba.out hxs _ _ _ _)) (fun hHeld=>?_);clear hK K;try simp only [pt]
   refine plz [15,16] ?_;iterate 2 (refine tnz (v:=?_) ?_ ?_;rotate_left;(focus (intro w hSw;go_simp;try with_reducible rfl));try simp only [pt])
   refine pzz ?_;refine dnz ?_;clear hHeld;go_wp2_with fail
   go_meet;exact⟨_,rfl,rfl,rfl,set4t_at XB.out _ _ _ _,hxs,set4t_below Ba.out hxs _ _ _ _⟩
 case rest =>
  obtain ⟨tb,rfl,rfl,rfl,hT,hle,hb⟩:=hcut;have TB:=kp hT;have RB2:=kp (Bk.on RB0.out hb);have XB2:=kp (Bk.on XB0.out hb);have B2:=kp (B1.out.trans (hb.mono B1.out.size));have HTw:=kp hle;clear hT hle hb;generalize hwb:wc=w2 at *;clear hwb;obtain ⟨t0,t1,t2,t3,tf⟩:=Bk.c4 TB.out;obtain ⟨x0,x1,x2,xf⟩:=Bk.c3 XB2.out;obtain ⟨r0,r1,r2,rf⟩:=Bk.c3 RB2.out;have hn1:tb≠w.heap.size:=by have:=HTw.out;have:=HXw.out;omega
  have hn2:rb≠w.heap.size:=by have:=HRw.out;omega
  have hn3:rb≠tb:=by have:=HRw.out;have:=HTw.out;have:=HXw.out;omega
  have hn4:w.heap.size≠tb:=by have:=HTw.out;have:=HXw.out;omega
  have hn5:w.heap.size≠rb:=by have:=HRw.out;omega
  go_upto_region 15 with fail
  have TD:=kp (show w2.drew.heap[tb]?=_ from TB.out);have RD:=kp (show w2.drew.heap[rb]?=_ from RB2.out);have XD:=kp (show w2.drew.heap[w.heap.size]?=_ from XB2.out);have BD:=kp B2.out.drew;refine wp_region_held_drew (S:=fun W=>W.heap[tb]?=some (.cells #[.int .i8 4,.string tx,.int .i64 q,.int .i64 e0] 152 (0,0))) (by kernel_rfl) (TB.out) (fun hHeld=>?_);refine plz [0,1,2] ?_;iterate 3 (refine tnz (v:=?_) ?_ ?_;rotate_left;(focus first | ((intro w hSw;go_simp;try with_reducible rfl);done) | ((intro w hSw;(obtain ⟨t0,t1,t2,t3,tf⟩:=Bk.c4 hSw;go_simp;try with_reducible rfl));done));try simp only [pt])
  refine pzz ?_;generalize hwd:World.drew _=wd at *;clear hwd x0 x1 x2 xf r0 r1 r2 rf t0 t1 t2 t3 tf;obtain ⟨x0,x1,x2,xf⟩:=Bk.c3 XD.out;refine rd 3 fun K hK=>?_;go_simp;refine hK.out _ _ ((Bk.apart TD.out (p:=⟨w.heap.size,0,none⟩) hn1 _)) (fun hHeld=>?_);clear hK K;try simp only [pt]
  refine tk 4 (v:=?_) ?_ ?_;rotate_left
  ·(intro w hSw;go_simp;try with_reducible rfl)
  try simp only [pt]
  clear x0 x1 x2 xf;obtain ⟨x0,x1,x2,xf⟩:=Bk.c3 (Bk.set_at XD.out 0 (.int .i8 2));refine rd 5 fun K hK=>?_;go_simp;refine hK.out _ _ ((Bk.apart hHeld (p:=⟨w.heap.size,1,none⟩) hn1 _)) (fun hHeld=>?_);clear hK K;try simp only [pt]
  refine dnz ?_;clear hHeld x0 x1 x2 xf;have X3:=kp (Bk.set_at (Bk.set_at XD.out 0 (.int .i8 2)) 1 (.string tx));have R3:=kp (Bk.apart (Bk.apart RD.out (p:=⟨w.heap.size,0,none⟩) hn2 (.int .i8 2)) (p:=⟨w.heap.size,1,none⟩) hn2 (.string tx));have T3:=kp (Bk.apart (Bk.apart TD.out (p:=⟨w.heap.size,0,none⟩) hn1 (.int .i8 2)) (p:=⟨w.heap.size,1,none⟩) hn1 (.string tx));have K3:=kp (((Keeps.of_below BD.out (fun k=>k=rb)).setCell (p:=⟨w.heap.size,0,none⟩) (.inr nlq) (.int .i8 2)).setCell (p:=⟨w.heap.size,1,none⟩) (.inr nlq) (.string tx));generalize (wd.setCell ⟨w.heap.size,0,none⟩ (.int .i8 2)).setCell ⟨w.heap.size,1,none⟩ (.string tx)=w3 at *;obtain ⟨r0,r1,r2,rf⟩:=Bk.c3 R3.out;obtain ⟨t0,t1,t2,t3,tf⟩:=Bk.c4 T3.out;go_wp2_with fail
  have x0:=True.intro;have x1:=True.intro;have x2:=True.intro;have xf:=True.intro
  go_loopw [] (fun wr=>wr.heap[w.heap.size]?=some (.cells #[.int .i8 2,.string tx,.slice none 0 0] 81 (0,0))/\wr.heap[rb]?=some (.cells #[.string s,.int .i64 e0,.int .i64 0] 122 (0,0))/\Keeps (fun k=>k=rb) w wr) (fun _=>0)
  case atStart=>exact⟨Bk.apart X3.out hn5 _,Bk.set_at R3.out 1 _,K3.out.setCell (p:=⟨rb,1,none⟩) (.inl rfl) _⟩
  case round =>
   have XF:=kp hrel.1;have RF:=kp hrel.2.1;have KF:=kp hrel.2.2;clear hrel x0 x1 x2 xf r0 r1 r2 rf t0 t1 t2 t3 tf;obtain ⟨x0,x1,x2,xf⟩:=Bk.c3 XF.out;go_wp2_with fail
   have KS:=set3'_keeps (S:=fun k=>k=rb) KF.out (b:=w.heap.size) (.inr nlq) (.int .i8 2) (.string tx) (.slice none 0 0);exact one_ret (w:=set3' wr w.heap.size _ _ _) Tryz.results62 (set3'_at XF.out _ _ _) rfl rfl ⟨none,0,rfl,⟨KS.size,nlq,fun V _=>SexpR.make (w:=V) (A:=none) (k:=2) (t:=tx) (c:=0) (l:=[]) (.inl rfl) (Nat.zero_le _) (Nat.zero_le _) HLen.out (by simp) (by decide)⟩,set3'_apart RF.out hn2 _ _ _,KS⟩
theorem info_sexp4:(Tryz.prog.info? 81).map (fun i=>(i.zero,i.size,i.bytes))=some (some (.agg #[.int .i8 0,.string { data:=#[] },.slice none 0 0]),3,48):=by kernel_rfl
def OneAt (x:Sexp):Prop:=∀ (s:ByteArray) (p:Nat) (w:World) (rb:Nat) (r:List UInt8),p<=s.size->s.size<=100000->Rd (from_ s p) x r->w.heap[rb]?=some (.cells #[.string s,.int .i64 p,.int .i64 0] 122 (0,0))->Calls Tryz.prog 62 #[.pointer (some ⟨rb,0,none⟩)] w (OnePost w rb s x (at_ s r))
theorem one_list (xs:List Sexp) (ih:∀ y ∈ xs,OneAt y) (s:ByteArray) (p:Nat) (w:World) (rb:Nat) (f:Nat->List UInt8) (rest:List UInt8) (hp:p<=s.size) (hs:s.size<=100000) (hn:nextL (skipL false (from_ s p))=.tok 0 [] (f 0))
  (hc:∀ i,i < xs.length->∀ t q,nextL (skipL false (f i))≠.tok 1 t q) (hx:∀ i x,xs[i]?=some x->Rd (f i) x (f (i+1))) (hd:nextL (skipL false (f xs.length))=.tok 1 [] rest) (hrb:w.heap[rb]?=some (.cells #[.string s,.int .i64 p,.int .i64 0] 122 (0,0))) :
  Calls Tryz.prog 62 #[.pointer (some ⟨rb,0,none⟩)] w (OnePost w rb s (.mk 3 { data:=#[] } xs) (at_ s rest)):=by
 have hsuf:∀ i,i<=xs.length->f i <:+ from_ s p:=by
  intro i
  induction i with
  | zero=>intro _;exact next_skip_suffix hn
  | succ i ihi=>intro hi;exact(hx i xs[i] (gqe (by omega))).suffix.trans (ihi (by omega))
 have hat:∀ i,i<=xs.length->from_ s (at_ s (f i))=f i/\at_ s (f i)<=s.size:=fun i hi=>⟨(from_of_suffix (hsuf i hi)).1,(from_of_suffix (hsuf i hi)).2.1⟩
 have hcount:∀ i,i<=xs.length->i+(f i).length<=s.size:=by
  intro i
  induction i with
  | zero=>intro _;have:=(hsuf 0 (Nat.zero_le _)).length_le;rw [from_len] at this;omega
  | succ i ihi=>intro hi;have h1:=(hx i xs[i] (gqe (by omega))).shorter;have h2:=ihi (by omega);omega
 have HN:=kp (fun W=>next_any s p W hp (by omega) 0 [] (f 0) hn)
 have HTk:=kp (fun i (hi:i < xs.length)=>show ∃ k t q,nextL (skipL false (f i))=.tok k t q/\¬ k=1 by
  obtain ⟨k,t,q,h⟩:=(hx i xs[i] (gqe hi)).next;exact⟨k,t,q,h,fun e=>hc i hi t q (e ▸ h)⟩)
 have HAt:=kp hat;have HCt:=kp hcount;have HNx:=kp (fun i (hi:i<=xs.length) W k t r (h:nextL (skipL false (f i))=.tok k t r)=>next_any s (at_ s (f i)) W (hat i hi).2 (by omega) k t r (by rw [(hat i hi).1];exact h));have HIh:=kp (fun i x (hi:xs[i]?=some x) W hW=>ih x (mgq hi) s (at_ s (f i)) W rb (f (i+1)) (hat i (by have:=(gqs hi).1;omega)).2 hs (by rw [(hat i (by have:=(gqs hi).1;omega)).1];exact hx i x hi) hW);have HX:=kp hx;have HD:=kp hd;have HXl:=kp (show xs.length<=100000 by have:=hcount xs.length nlq;omega);obtain ⟨i0,hi0,z0,z1,z2⟩:=info_parts info_sexp4;have I0:=kp hi0;have I1:=kp z0;have I2:=kp z1;have I3:=kp z2;clear hi0 z0 z1 z2 hn hsuf hat hcount ih hc hx hd hp;unfold TokPost at HN HNx;generalize skipP s p=q at *;have HEf:∃ E,E=at_ s (f 0):=⟨_,rfl⟩;have RB0:=kp (Bk.keep hrb (.cells #[.int .i8 0,.string { data:=#[] },.slice none 0 0] 81));have XB0:=kp (Bk.new w (.cells #[.int .i8 0,.string { data:=#[] },.slice none 0 0] 81));have B1:=kp ((brq w).alloc nlq (.cells #[.int .i8 0,.string { data:=#[] },.slice none 0 0] 81));have HRw:=kp (lt_of_block hrb);clear hrb
 go_enter Tryz.func62,Tryz.ntmps62
 go_upto_region 1 with fail
 generalize w.alloc (.cells #[.int .i8 0,.string { data:=#[] },.slice none 0 0] 81)=w1 at *;have HXw:=kp (lt_of_block XB0.out)
 go_cut [3,4,5] from 10 to 22 (fun v3 v4 v5 V=>TokCut w1 0 { data:=#[] } (q:Int) (at_ s (f 0):Int) v3 v4 v5 V)
 case first =>
  have B0:=kp (brq w1).drew;refine wp_region_held_drew (S:=fun V=>Below w1.heap.size w1 V) (by kernel_rfl) (B0.out) (fun hHeld=>?_);refine plz [0,1,2,3,4,5,6,7] ?_;iterate 8 (refine tnz (v:=?_) ?_ ?_;rotate_left;(focus first | ((intro w hSw;go_simp;try with_reducible rfl);done) | ((intro w hSw;(obtain ⟨r0,r1,r2,rf⟩:=Bk.c3 (Bk.on RB0.out hSw);go_simp;try with_reducible rfl));done));try simp only [pt])
  refine pzz ?_;generalize hwd:World.drew _=wd at *;clear hwd;refine r2y 8 13 (fun K hK=>?_) fun K hK=>?_
  ·skip;go_simp
   go_wp2_with (go_at_call 105;refine(HN.out _).mono ?_;rintro e Wa ⟨rfl,hb⟩;have Ba:=kp (B0.out.trans (hb.mono B0.out.size));clear hb)
   refine hK.out _ _ Ba.out (fun hHeld=>?_);clear hK K;try simp only [pt]
   refine plz [9,10,11,12] ?_;iterate 4 (refine tnz (v:=?_) ?_ ?_;rotate_left;(focus (intro w hSw;go_simp;try with_reducible rfl));try simp only [pt])
   refine pzz ?_;have BA:=kp (Ba.out.alloc Ba.out.size (.cells #[.int .i8 0,.string { data:=#[] },.int .i64 0,.int .i64 0] 152));have XA:=kp (Bk.new Wa (.cells #[.int .i8 0,.string { data:=#[] },.int .i64 0,.int .i64 0] 152));have hxs:=Ba.out.size;refine rd 13 fun K hK=>?_;go_simp;refine hK.out _ _ (BA.out) (fun hHeld=>?_);clear hK K;try simp only [pt]
   generalize Wa.alloc (.cells #[.int .i8 0,.string { data:=#[] },.int .i64 0,.int .i64 0] 152)=wa at *;generalize Wa.heap.size=tb at *;obtain ⟨x0,x1,x2,x3,xf⟩:=Bk.c4 XA.out;refine rd 14 fun K hK=>?_;go_simp;refine hK.out _ _ ((set4t_below BA.out hxs _ _ _ _)) (fun hHeld=>?_);clear hK K;try simp only [pt]
   refine plz [15,16] ?_;iterate 2 (refine tnz (v:=?_) ?_ ?_;rotate_left;(focus (intro w hSw;go_simp;try with_reducible rfl));try simp only [pt])
   refine pzz ?_;refine dnz ?_;clear hHeld;go_wp2_with fail
   go_meet;exact⟨_,rfl,rfl,rfl,set4t_at XA.out _ _ _ _,hxs,set4t_below BA.out hxs _ _ _ _⟩
  ·skip;have BA:=kp (B0.out.alloc B0.out.size (.cells #[.int .i8 0,.string { data:=#[] },.int .i64 0,.int .i64 0] 152));have XA:=kp (Bk.new wd (.cells #[.int .i8 0,.string { data:=#[] },.int .i64 0,.int .i64 0] 152));have hxs:=B0.out.size;go_simp;refine hK.out _ _ BA.out (fun hHeld=>?_);clear hK K;try simp only [pt]
   generalize wd.alloc (.cells #[.int .i8 0,.string { data:=#[] },.int .i64 0,.int .i64 0] 152)=wa at *;generalize wd.heap.size=tb at *;refine rd 8 fun K hK=>?_;go_simp
   go_wp2_with (go_at_call 105;refine(HN.out _).mono ?_;rintro e Wa ⟨rfl,hb⟩;have XB:=kp (Bk.on XA.out hb);have Ba:=kp (BA.out.trans (hb.mono BA.out.size));clear hb)
   refine hK.out _ _ (Ba.out) (fun hHeld=>?_);clear hK K;try simp only [pt]
   refine plz [9,10,11,12] ?_;iterate 4 (refine tnz (v:=?_) ?_ ?_;rotate_left;(focus (intro w hSw;go_simp;try with_reducible rfl));try simp only [pt])
   refine pzz ?_;obtain ⟨x0,x1,x2,x3,xf⟩:=Bk.c4 XB.out;refine rd 14 fun K hK=>?_;go_simp;refine hK.out _ _ ((set4t_below Ba.out hxs _ _ _ _)) (fun hHeld=>?_);clear hK K;try simp only [pt]
   refine plz [15,16] ?_;iterate 2 (refine tnz (v:=?_) ?_ ?_;rotate_left;(focus (intro w hSw;go_simp;try with_reducible rfl));try simp only [pt])
   refine pzz ?_;refine dnz ?_;clear hHeld;go_wp2_with fail
   go_meet;exact⟨_,rfl,rfl,rfl,set4t_at XB.out _ _ _ _,hxs,set4t_below Ba.out hxs _ _ _ _⟩
 case rest =>
  obtain ⟨tb,rfl,rfl,rfl,hT,hle,hb⟩:=hcut;have TB:=kp hT;have RB2:=kp (Bk.on RB0.out hb);have XB2:=kp (Bk.on XB0.out hb);have B2:=kp (B1.out.trans (hb.mono B1.out.size));have HTw:=kp hle;clear hT hle hb;generalize hwb:wc=w2 at *;clear hwb;obtain ⟨t0,t1,t2,t3,tf⟩:=Bk.c4 TB.out;obtain ⟨x0,x1,x2,xf⟩:=Bk.c3 XB2.out;obtain ⟨r0,r1,r2,rf⟩:=Bk.c3 RB2.out;have hn1:tb≠w.heap.size:=by have:=HTw.out;have:=HXw.out;omega
  have hn2:rb≠w.heap.size:=by have:=HRw.out;omega
  have hn3:rb≠tb:=by have:=HRw.out;have:=HTw.out;have:=HXw.out;omega
  have hn4:w.heap.size≠tb:=by have:=HTw.out;have:=HXw.out;omega
  have hn5:w.heap.size≠rb:=by have:=HRw.out;omega
  have X4:=kp (Bk.apart (Bk.set_at XB2.out 0 (.int .i8 3)) (p:=⟨rb,1,none⟩) hn5 (.int .i64 (at_ s (f 0))));have R4:=kp (Bk.set_at (Bk.apart RB2.out (p:=⟨w.heap.size,0,none⟩) hn2 (.int .i8 3)) 1 (.int .i64 (at_ s (f 0))));have K4:=kp (((Keeps.of_below B2.out (fun k=>k=rb)).setCell (p:=⟨w.heap.size,0,none⟩) (.inr nlq) (.int .i8 3)).setCell (p:=⟨rb,1,none⟩) (.inl rfl) (.int .i64 (at_ s (f 0))));simp only [List.setIfInBounds_toArray,List.set_cons_zero,List.set_cons_succ] at X4 R4;go_wp2_with fail
  generalize (w2.setCell ⟨w.heap.size,0,none⟩ (.int .i8 3)).setCell ⟨rb,1,none⟩ (.int .i64 (at_ s (f 0)))=w4 at *;have HX4:=kp (lt_of_block X4.out);have HR4:=kp (lt_of_block R4.out);clear t0 t1 t2 t3 tf x0 x1 x2 xf r0 r1 r2 rf TB RB2 XB2 B2 HTw hn3 hn1 hn4 HN HEf
  go_loopw [] (fun wr=>∃ (k:Nat) (ys:List SxB) (v:Value),k<=xs.length/\ys.map Prod.fst=xs.take k/\RowOk 3 sxV sxOk w4.heap.size 81 wr v ys/\wr.heap[w.heap.size]?=some (.cells #[.int .i8 3,.string { data:=#[] },v] 81 (0,0))/\wr.heap[rb]?=some (.cells #[.string s,.int .i64 (at_ s (f k)),.int .i64 0] 122 (0,0))/\Keeps (fun b=>b=w.heap.size\/b=rb) w4 wr) (fun wr=>s.size - (intOf ((wr.cell? ⟨rb,1,none⟩).getD undef)).toNat)
  case atStart=>exact⟨0,[],_,Nat.zero_le _,rfl,RowOk.nil _,X4.out,R4.out,Keeps.refl _ _⟩
  case round =>
   obtain ⟨k,ys,v,hk,hys,hrow,hxc,hrc,hkp⟩:=hrel;have HYs:=kp hys;have HRow:=kp hrow;have XBr:=kp hxc;have RBr:=kp hrc;have KPr:=kp hkp;have hyl:ys.length=k:=by have:=congrArg List.length hys;rw [List.length_map,List.length_take] at this;omega
   have HYl:=kp hyl;obtain ⟨A,c,hv,hc1,hc2⟩:=hrow.shape;rw [hyl] at hv hc1;subst hv;have HC1:=kp hc1;have HC2:=kp hc2;have HSz:=kp hkp.size;have KWr:=kp (show Keeps (fun b=>b=rb) w wr from K4.out.trans hkp (fun j hj h=>by rcases h with h | h <;> omega))
   clear hys hrow hxc hrc hkp hyl hc1 hc2;obtain ⟨x0,x1,x2,xf⟩:=Bk.c3 XBr.out
   by_cases hlt:k < xs.length
   ·obtain ⟨kk,tt,qq,hnx,hk1⟩:=HTk.out k hlt;have HNk:=kp (fun W=>HNx.out k hk W kk tt qq hnx);have hkk:(kk == 1)=false:=beq_eq_false_iff_ne.2 hk1;have hxk:=gqe hlt;have HTake:=kp (show xs.take (k+1)=xs.take k ++ [xs[k]] by rw [List.take_add_one,hxk];rfl);have HRd:=kp (fun W hW=>HIh.out k xs[k] hxk W hW)
    have HPr:=kp (show at_ s (f k) < at_ s (f (k+1))/\at_ s (f (k+1))<=s.size from by
     have h1:=(HX.out k xs[k] hxk).shorter;have h2:=HCt.out k hk;unfold at_
     omega)
    have HMe:=kp (show(wr.cell? ⟨rb,1,none⟩)=some (.int .i64 (at_ s (f k))) from(Bk.c3 RBr.out).2.1);generalize xs[k]=y at *;generalize skipP s (at_ s (f k))=sk at *;clear hnx hk1 hxk;go_upto_region 19 with fail
    clear x0 x1 x2 xf
    go_cut [6,7,8] from 70 to 114 (fun v6 v7 v8 V=>TokCut wr kk ⟨tt.toArray⟩ sk (at_ s qq) v6 v7 v8 V)
    case first =>
     have B0:=kp (brq wr).drew;refine wp_region_held_drew (S:=fun V=>Below wr.heap.size wr V) (by kernel_rfl) (B0.out) (fun hHeld=>?_);refine plz [0,1,2,3,4,5,6,7] ?_;iterate 8 (refine tnz (v:=?_) ?_ ?_;rotate_left;(focus first | ((intro w hSw;go_simp;try with_reducible rfl);done) | ((intro w hSw;(obtain ⟨r0,r1,r2,rf⟩:=Bk.c3 (Bk.on RBr.out hSw);go_simp;try with_reducible rfl));done));try simp only [pt])
     refine pzz ?_;generalize hwd:World.drew _=wd at *;clear hwd;refine r2y 8 13 (fun K hK=>?_) fun K hK=>?_
     ·skip;go_simp
      go_wp2_with (go_at_call 105;refine(HNk.out _).mono ?_;rintro e Wa ⟨rfl,hb⟩;have Ba:=kp (B0.out.trans (hb.mono B0.out.size));clear hb)
      refine hK.out _ _ Ba.out (fun hHeld=>?_);clear hK K;try simp only [pt]
      refine plz [9,10,11,12] ?_;iterate 4 (refine tnz (v:=?_) ?_ ?_;rotate_left;(focus (intro w hSw;go_simp;try with_reducible rfl));try simp only [pt])
      refine pzz ?_;have BA:=kp (Ba.out.alloc Ba.out.size (.cells #[.int .i8 0,.string { data:=#[] },.int .i64 0,.int .i64 0] 152));have XA:=kp (Bk.new Wa (.cells #[.int .i8 0,.string { data:=#[] },.int .i64 0,.int .i64 0] 152));have hxs:=Ba.out.size;refine rd 13 fun K hK=>?_;go_simp;refine hK.out _ _ (BA.out) (fun hHeld=>?_);clear hK K;try simp only [pt]
      generalize Wa.alloc (.cells #[.int .i8 0,.string { data:=#[] },.int .i64 0,.int .i64 0] 152)=wa at *;generalize Wa.heap.size=tb at *;obtain ⟨x0,x1,x2,x3,xf⟩:=Bk.c4 XA.out;refine rd 14 fun K hK=>?_;go_simp;refine hK.out _ _ ((set4t_below BA.out hxs _ _ _ _)) (fun hHeld=>?_);clear hK K;try simp only [pt]
      refine plz [15,16] ?_;iterate 2 (refine tnz (v:=?_) ?_ ?_;rotate_left;(focus (intro w hSw;go_simp;try with_reducible rfl));try simp only [pt])
      refine pzz ?_;refine dnz ?_;clear hHeld;go_wp2_with fail
      go_meet;exact⟨_,rfl,rfl,rfl,set4t_at XA.out _ _ _ _,hxs,set4t_below BA.out hxs _ _ _ _⟩
     ·skip;have BA:=kp (B0.out.alloc B0.out.size (.cells #[.int .i8 0,.string { data:=#[] },.int .i64 0,.int .i64 0] 152));have XA:=kp (Bk.new wd (.cells #[.int .i8 0,.string { data:=#[] },.int .i64 0,.int .i64 0] 152));have hxs:=B0.out.size;go_simp;refine hK.out _ _ BA.out (fun hHeld=>?_);clear hK K;try simp only [pt]
      generalize wd.alloc (.cells #[.int .i8 0,.string { data:=#[] },.int .i64 0,.int .i64 0] 152)=wa at *;generalize wd.heap.size=tb at *;refine rd 8 fun K hK=>?_;go_simp
      go_wp2_with (go_at_call 105;refine(HNk.out _).mono ?_;rintro e Wa ⟨rfl,hb⟩;have XB:=kp (Bk.on XA.out hb);have Ba:=kp (BA.out.trans (hb.mono BA.out.size));clear hb)
      refine hK.out _ _ (Ba.out) (fun hHeld=>?_);clear hK K;try simp only [pt]
      refine plz [9,10,11,12] ?_;iterate 4 (refine tnz (v:=?_) ?_ ?_;rotate_left;(focus (intro w hSw;go_simp;try with_reducible rfl));try simp only [pt])
      refine pzz ?_;obtain ⟨x0,x1,x2,x3,xf⟩:=Bk.c4 XB.out;refine rd 14 fun K hK=>?_;go_simp;refine hK.out _ _ ((set4t_below Ba.out hxs _ _ _ _)) (fun hHeld=>?_);clear hK K;try simp only [pt]
      refine plz [15,16] ?_;iterate 2 (refine tnz (v:=?_) ?_ ?_;rotate_left;(focus (intro w hSw;go_simp;try with_reducible rfl));try simp only [pt])
      refine pzz ?_;refine dnz ?_;clear hHeld;go_wp2_with fail
      go_meet;exact⟨_,rfl,rfl,rfl,set4t_at XB.out _ _ _ _,hxs,set4t_below Ba.out hxs _ _ _ _⟩
    case rest =>
     obtain ⟨tb5,rfl,rfl,rfl,hT,hle,hb⟩:=hcut;have T5:=kp hT;have B5:=kp hb;have R5:=kp (Bk.on RBr.out hb);clear hT hle hb;generalize hwb:wc=w6 at *;clear hwb;obtain ⟨t0,t1,t2,t3,tf⟩:=Bk.c4 T5.out;go_wp2_with fail
     clear t0 t1 t2 t3 tf;refine(HRd.out _ R5.out).mono ?_;rintro e w7 ⟨Ay,cy,rfl,hyin,hr7,hk7⟩;have K7:=kp (show Keeps (fun b=>b=rb) wr w7 from(Keeps.of_below B5.out _).trans hk7 (fun _ _ h=>h));have Y8:=kp (Bk.new w7 (.cells #[.int .i8 y.kind,.string y.text,.slice Ay y.l.length cy] 81));have K8:=kp (K7.out.alloc (.cells #[.int .i8 y.kind,.string y.text,.slice Ay y.l.length cy] 81));have X7:=kp (show w7.heap[w.heap.size]?=_ from(K7.out.block _ (lt_of_block XBr.out) hn5).trans XBr.out);have X8:=kp (Bk.keep X7.out (.cells #[.int .i8 y.kind,.string y.text,.slice Ay y.l.length cy] 81));have R8:=kp (Bk.keep hr7 (.cells #[.int .i8 y.kind,.string y.text,.slice Ay y.l.length cy] 81));have HIn:=kp (hyin.below ((brq w7).alloc nlq (.cells #[.int .i8 y.kind,.string y.text,.slice Ay y.l.length cy] 81)));have HLo:=kp B5.out.size;have HHi:=kp hk7.size;clear hk7 hyin hr7;go_upto_region 23 with fail
     generalize w7.heap.size=y7b at *;generalize w7.alloc (.cells #[.int .i8 y.kind,.string y.text,.slice Ay y.l.length cy] 81)=w8 at *;obtain ⟨x0,x1,x2,xf⟩:=Bk.c3 X8.out;obtain ⟨y0,y1,y2,yf⟩:=Bk.c3 Y8.out;obtain ⟨r0,r1,r2,rf⟩:=Bk.c3 R8.out;have HRk:=kp (show RowOk 3 sxV sxOk w4.heap.size 81 w8 (.slice A k c) ys from HRow.out.keep K8.out (fun b e=>by have:=HR4.out;omega));have HR8:=kp (show RowOk 3 sxV sxOk w4.heap.size 81 (w8.alloc (.cells #[.int .i8 y.kind,.string y.text,.slice Ay y.l.length cy] 81)) (.slice A k c) ys from HRk.out.below ((Below.refl _ _).alloc nlq _));have HI8:=kp (HIn.out.below ((brq w8).alloc nlq (.cells #[.int .i8 y.kind,.string y.text,.slice Ay y.l.length cy] 81)));have HO8:=kp (show World.ownsRow (w8.alloc (.cells #[.int .i8 y.kind,.string y.text,.slice Ay y.l.length cy] 81)) w4.heap.size 81 3 (.slice A k c) k (flatV sxV ys) by have h:=HR8.out.own;rw [HYl.out] at h;exact h);have HCl:=kp (Cells.new w8 [.int .i8 y.kind,.string y.text,.slice Ay y.l.length cy] 81 (0,0));have hk48:k < 1000000:=by have:=HXl.out;omega
     have HZ8:=kp (show w4.heap.size<=w8.heap.size from Nat.le_trans HSz.out K8.out.size)
     go_wp2_with (at_builtin;refine wpList_append_at rfl (.tmp 110) (.tmp 112) _ rfl w4.heap.size 81 i0 (.agg #[.int .i8 0,.string { data:=#[] },.slice none 0 0]) 3 48 Tryz.underlying63 I0.out I1.out I2.out I3.out rfl (by decide) (.slice A k c) k (flatV sxV ys) rfl HO8.out (some ⟨w8.heap.size,0,none⟩) 1 1 [.int .i8 y.kind,.string y.text,.slice Ay y.l.length cy] rfl rfl HCl.out (by simp [Value.oneCell']) (by unfold maxLen;omega) (by omega) (by have:=HZ8.out;simp;omega) ?_)
     intro v' w9 hown hgr hat;obtain ⟨A',c',rfl⟩:=shape_own hown;have HR9:=kp (show RowOk 3 sxV sxOk w4.heap.size 81 w9 (.slice A' (k+1) c') (ys ++ [(y,Ay,cy)]) from HR8.out.push (y:=(y,Ay,cy)) (by rw [HYl.out];exact hown) hgr (by simpa using hat) (by have:=HLo.out;have:=HSz.out;omega) HI8.out (fun g he=>by have h1:=HRow.out.lt g he;have h2:=HLo.out;omega));have K9:=kp (show Keeps (fun b=>b=w.heap.size\/b=rb) w4 w9 from((KPr.out.trans_same (K8.out.mono (fun _ h=>.inr h))).alloc _).grown hgr (fun g he=>.inr (HRow.out.lt g he).1));have X9:=kp (show w9.heap[w.heap.size]?=some (.cells #[.int .i8 3,.string { data:=#[] },.slice A k c] 81 (0,0)) from(hgr.block w.heap.size (by have:=lt_of_block X8.out;simp;omega) (fun e=>by have h1:=HRow.out.lt _ e.symm;have h2:=HX4.out;omega)).trans (Bk.keep X8.out _));have R9:=kp (show w9.heap[rb]?=some (.cells #[.string s,.int .i64 (at_ s (f (k+1))),.int .i64 0] 122 (0,0)) from(hgr.block rb (by have:=lt_of_block R8.out;simp;omega) (fun e=>by have h1:=HRow.out.lt _ e.symm;have h2:=HR4.out;omega)).trans (Bk.keep R8.out _));clear hown hgr hat x0 x1 x2 xf y0 y1 y2 yf r0 r1 r2 rf;obtain ⟨x0,x1,x2,xf⟩:=Bk.c3 X9.out;have X10:=kp (Bk.set_at X9.out 2 (.slice A' (k+1) c'));simp only [List.setIfInBounds_toArray,List.set_cons_zero,List.set_cons_succ] at X10;have R10:=kp (Bk.apart R9.out (p:=⟨w.heap.size,2,none⟩) hn2 (.slice A' (k+1) c'));have K10:=kp (K9.out.setCell (p:=⟨w.heap.size,2,none⟩) (.inl (.inl rfl)) (.slice A' (k+1) c'))
     have O10:=kp (HR9.out.keep (S:=fun b=>b=w.heap.size) ((Keeps.refl (fun b=>b=w.heap.size) w9).setCell (p:=⟨w.heap.size,2,none⟩) (.inl rfl) (.slice A' (k+1) c')) (fun b e=>by have:=HX4.out;omega));have HM10:=kp (Bk.c3 R10.out).2.1;go_wp2_with fail
     go_roundw
     case rel=>exact⟨k+1,ys ++ [(y,Ay,cy)],_,by omega,by rw [List.map_append,HYs.out,HTake.out];rfl,O10.out,X10.out,R10.out,K10.out⟩
     case measure=>have h1:=HPr.out;have h2:=HMe.out;have h3:=HM10.out;rw [h2,h3];simp [intOf];omega
   ·obtain rfl:k=xs.length:=by omega
    have HNk:=kp (fun W=>HNx.out xs.length hk W 1 [] rest HD.out);generalize skipP s (at_ s (f xs.length))=sk at *;generalize at_ s rest=er at *;go_upto_region 19 with fail
    clear x0 x1 x2 xf
    go_cut [6,7,8] from 70 to 114 (fun v6 v7 v8 V=>TokCut wr 1 { data:=#[] } sk er v6 v7 v8 V)
    case first =>
     have B0:=kp (brq wr).drew;refine wp_region_held_drew (S:=fun V=>Below wr.heap.size wr V) (by kernel_rfl) (B0.out) (fun hHeld=>?_);refine plz [0,1,2,3,4,5,6,7] ?_;iterate 8 (refine tnz (v:=?_) ?_ ?_;rotate_left;(focus first | ((intro w hSw;go_simp;try with_reducible rfl);done) | ((intro w hSw;(obtain ⟨r0,r1,r2,rf⟩:=Bk.c3 (Bk.on RBr.out hSw);go_simp;try with_reducible rfl));done));try simp only [pt])
     refine pzz ?_;generalize hwd:World.drew _=wd at *;clear hwd;refine r2y 8 13 (fun K hK=>?_) fun K hK=>?_
     ·skip;go_simp
      go_wp2_with (go_at_call 105;refine(HNk.out _).mono ?_;rintro e Wa ⟨rfl,hb⟩;have Ba:=kp (B0.out.trans (hb.mono B0.out.size));clear hb)
      refine hK.out _ _ Ba.out (fun hHeld=>?_);clear hK K;try simp only [pt]
      refine plz [9,10,11,12] ?_;iterate 4 (refine tnz (v:=?_) ?_ ?_;rotate_left;(focus (intro w hSw;go_simp;try with_reducible rfl));try simp only [pt])
      refine pzz ?_;have BA:=kp (Ba.out.alloc Ba.out.size (.cells #[.int .i8 0,.string { data:=#[] },.int .i64 0,.int .i64 0] 152));have XA:=kp (Bk.new Wa (.cells #[.int .i8 0,.string { data:=#[] },.int .i64 0,.int .i64 0] 152));have hxs:=Ba.out.size;refine rd 13 fun K hK=>?_;go_simp;refine hK.out _ _ (BA.out) (fun hHeld=>?_);clear hK K;try simp only [pt]
      generalize Wa.alloc (.cells #[.int .i8 0,.string { data:=#[] },.int .i64 0,.int .i64 0] 152)=wa at *;generalize Wa.heap.size=tb at *;obtain ⟨x0,x1,x2,x3,xf⟩:=Bk.c4 XA.out;refine rd 14 fun K hK=>?_;go_simp;refine hK.out _ _ ((set4t_below BA.out hxs _ _ _ _)) (fun hHeld=>?_);clear hK K;try simp only [pt]
      refine plz [15,16] ?_;iterate 2 (refine tnz (v:=?_) ?_ ?_;rotate_left;(focus (intro w hSw;go_simp;try with_reducible rfl));try simp only [pt])
      refine pzz ?_;refine dnz ?_;clear hHeld;go_wp2_with fail
      go_meet;exact⟨_,rfl,rfl,rfl,set4t_at XA.out _ _ _ _,hxs,set4t_below BA.out hxs _ _ _ _⟩
     ·skip;have BA:=kp (B0.out.alloc B0.out.size (.cells #[.int .i8 0,.string { data:=#[] },.int .i64 0,.int .i64 0] 152));have XA:=kp (Bk.new wd (.cells #[.int .i8 0,.string { data:=#[] },.int .i64 0,.int .i64 0] 152));have hxs:=B0.out.size;go_simp;refine hK.out _ _ BA.out (fun hHeld=>?_);clear hK K;try simp only [pt]
      generalize wd.alloc (.cells #[.int .i8 0,.string { data:=#[] },.int .i64 0,.int .i64 0] 152)=wa at *;generalize wd.heap.size=tb at *;refine rd 8 fun K hK=>?_;go_simp
      go_wp2_with (go_at_call 105;refine(HNk.out _).mono ?_;rintro e Wa ⟨rfl,hb⟩;have XB:=kp (Bk.on XA.out hb);have Ba:=kp (BA.out.trans (hb.mono BA.out.size));clear hb)
      refine hK.out _ _ (Ba.out) (fun hHeld=>?_);clear hK K;try simp only [pt]
      refine plz [9,10,11,12] ?_;iterate 4 (refine tnz (v:=?_) ?_ ?_;rotate_left;(focus (intro w hSw;go_simp;try with_reducible rfl));try simp only [pt])
      refine pzz ?_;obtain ⟨x0,x1,x2,x3,xf⟩:=Bk.c4 XB.out;refine rd 14 fun K hK=>?_;go_simp;refine hK.out _ _ ((set4t_below Ba.out hxs _ _ _ _)) (fun hHeld=>?_);clear hK K;try simp only [pt]
      refine plz [15,16] ?_;iterate 2 (refine tnz (v:=?_) ?_ ?_;rotate_left;(focus (intro w hSw;go_simp;try with_reducible rfl));try simp only [pt])
      refine pzz ?_;refine dnz ?_;clear hHeld;go_wp2_with fail
      go_meet;exact⟨_,rfl,rfl,rfl,set4t_at XB.out _ _ _ _,hxs,set4t_below Ba.out hxs _ _ _ _⟩
    case rest =>
     obtain ⟨tb5,rfl,rfl,rfl,hT,hle,hb⟩:=hcut;have T5:=kp hT;have B5:=kp hb;have R5:=kp (Bk.on RBr.out hb);have X5:=kp (Bk.on XBr.out hb);clear hT hle hb;generalize hwb:wc=w6 at *;clear hwb;obtain ⟨t0,t1,t2,t3,tf⟩:=Bk.c4 T5.out;obtain ⟨r0,r1,r2,rf⟩:=Bk.c3 R5.out;have X6:=kp (Bk.apart X5.out (p:=⟨rb,1,none⟩) hn5 (.int .i64 er));have R6:=kp (Bk.set_at R5.out 1 (.int .i64 er));simp only [List.setIfInBounds_toArray,List.set_cons_zero,List.set_cons_succ] at R6;have K6:=kp ((Keeps.of_below B5.out (fun k=>k=rb)).setCell (p:=⟨rb,1,none⟩) (.inl rfl) (.int .i64 er));go_upto_region 26 with fail
     generalize w6.setCell ⟨rb,1,none⟩ (.int .i64 er)=w7 at *;clear t0 t1 t2 t3 tf r0 r1 r2 rf;obtain ⟨x0,x1,x2,xf⟩:=Bk.c3 X6.out;have HRo:=kp (show RowOk 3 sxV sxOk w4.heap.size 81 (set3' w7 w.heap.size (.int .i8 3) (.string { data:=#[] }) (.slice A xs.length c)) (.slice A xs.length c) ys from HRow.out.keep (S:=fun b=>b=w.heap.size\/b=rb) (set3'_keeps (K6.out.mono (fun _ h=>.inr h)) (.inl (.inl rfl)) _ _ _) (fun b e=>by have h1:=HX4.out;have h2:=HR4.out;omega));have KS:=kp (show Keeps (fun k=>k=rb) w (set3' w7 w.heap.size (.int .i8 3) (.string { data:=#[] }) (.slice A xs.length c)) from set3'_keeps (KWr.out.trans_same K6.out) (.inr nlq) _ _ _);have HZ4:=kp K4.out.size;go_wp2_with fail
     refine one_ret (w:=set3' w7 w.heap.size _ _ _) Tryz.results62 (set3'_at X6.out _ _ _) rfl rfl ⟨A,c,rfl,⟨KS.out.size,nlq,fun V hV=>?_⟩,set3'_apart R6.out hn2 _ _ _,KS.out⟩;have hl:=HRo.out.lies (R:=SexpR) (f:=Prod.fst) sxV_len (fun W y h=>h) (hV.part HZ4.out nlq);rw [HYs.out,List.take_length] at hl;exact SexpR.make (w:=V) (A:=A) (k:=3) (t:={ data:=#[] }) (c:=c) (l:=xs) hl HC1.out HC2.out (by decide) (by have:=HXl.out;omega) (by decide)
theorem one_all:∀ (n:Nat) (x:Sexp),SizeOf.sizeOf x < n->OneAt x:=by
 intro n
 induction n with
 | zero=>intro x hx;omega
 | succ n ih =>
  intro x hx s p w rb r hp hs hr hrb
  cases hr with
  | name h hs'=>exact one_name _ _ hs' s p w rb r hp hs h hrb
  | num h hs'=>exact one_num _ _ hs' s p w rb r hp hs h hrb
  | key h hs'=>exact one_key _ _ hs' s p w rb r hp hs h hrb
  | @list _ r0 _ xs f h h0 hc hxs hn =>
   subst h0;exact one_list xs (fun y hy=>ih y (by have:=Sexp.mem_lt (x:=.mk 3 { data:=#[] } xs) (y:=y) hy;omega)) s p w rb f r hp hs h hc hxs hn hrb
end Dt
end Go.Proofs.YtmcbolkpbklfeaaGreatDoor
