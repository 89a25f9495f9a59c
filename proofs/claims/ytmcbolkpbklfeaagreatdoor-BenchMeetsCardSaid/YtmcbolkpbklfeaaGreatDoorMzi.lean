import Derived.Test.YtmcbolkpbklfeaaGreatDoorShort
import Derived.Test.YtmcbolkpbklfeaaGreatDoorMzh
/- merged by wip/merge.py from: SxRead SxEnd -/
set_option maxRecDepth 100000
set_option maxHeartbeats 51200000
namespace Go.Proofs.YtmcbolkpbklfeaaGreatDoor
namespace Dt
open Go.RowKit
theorem sread_ret {f:Func} {w:World} {b:Nat} {r0 r1 r2:Value} {E F:Int} {act:Act} {t:TypeId} {R:Ending->World->Prop} (hf:f.results=#[.cell 4 81,.tmp 5,.tmp 6]) (hb:w.heap[b]?=some (.cells #[r0,r1,r2] t (0,0))) (h2:act.tmps[4]?=some (.pointer (some ⟨b,0,none⟩))) (h3:act.tmps[5]?=some (.int .i64 E)) (h4:act.tmps[6]?=some (.int .i64 F)) (hd:act.defers=[]) (hR:R (.returned (.tuple #[.agg #[r0,r1,r2],.int .i64 E,.int .i64 F])) w) :
  bodyPost Tryz.prog f R .ret act w:=by
 obtain ⟨y0,y1,y2,_⟩:=Bk.c3 hb;refine bodyPost_ret (v:=.tuple #[.agg #[r0,r1,r2],.int .i64 E,.int .i64 F]) ?_ hd hR;simp [results,hf,go_sem,y0,y1,y2,h2,h3,h4]
theorem sread_any (s:ByteArray) (p:Nat) (w:World) (x:Sexp) (r:List UInt8) (hp:p<=s.size) (hs:s.size<=100000) (hd:x.depth<=60) (hr:Rd (from_ s p) x r) :
  Calls Tryz.prog 43 #[.string s,.int .i64 p] w (ReadPost w x (at_ s r)):=by
 have HR:=kp (fun W rb h=>one_all _ x (Nat.lt_succ_self _) s p W rb r hp hs hr h);have HDp:=kp (fun W A c h=>depth_any _ x (Nat.lt_succ_self _) W A c h);have B1:=kp ((brq w).alloc nlq (.cells #[.int .i8 0,.string { data:=#[] },.slice none 0 0] 81));have B2:=kp (B1.out.alloc B1.out.size (.cells #[.string s,.int .i64 p,.int .i64 0] 122));have X2:=kp (Bk.keep (Bk.new w (.cells #[.int .i8 0,.string { data:=#[] },.slice none 0 0] 81)) (.cells #[.string s,.int .i64 p,.int .i64 0] 122))
 have R2:=kp (show((w.alloc (.cells #[.int .i8 0,.string { data:=#[] },.slice none 0 0] 81)).alloc (.cells #[.string s,.int .i64 p,.int .i64 0] 122)).heap[w.heap.size+1]?=some (.cells #[.string s,.int .i64 p,.int .i64 0] 122 (0,0)) by
  have h:=Bk.new (w.alloc (.cells #[.int .i8 0,.string { data:=#[] },.slice none 0 0] 81)) (.cells #[.string s,.int .i64 p,.int .i64 0] 122)
  rwa [show(w.alloc (.cells #[.int .i8 0,.string { data:=#[] },.slice none 0 0] 81)).heap.size=w.heap.size+1 by simp] at h)
 have hd':decide ((60:Int) < (x.depth:Int))=false:=dfq (by omega);have hp':¬ (p:Int) < 0:=by omega
 generalize at_ s r=er at *;generalize x.depth=dp at *;unfold OnePost at HR;clear hr hd
 go_enter Tryz.func43,Tryz.ntmps43
 go_upto_region 4 with fail
 generalize (w.alloc (.cells #[.int .i8 0,.string { data:=#[] },.slice none 0 0] 81)).alloc (.cells #[.string s,.int .i64 p,.int .i64 0] 122)=w2 at *;have HRl:=kp (lt_of_block R2.out);go_wp2_with fail
 refine(HR.out _ _ R2.out).mono ?_;rintro e w3 ⟨A,c,rfl,hin,hr3,hk3⟩;have hne:w.heap.size≠w.heap.size+1:=by omega
 have X3:=kp ((hk3.block _ (lt_of_block X2.out) hne).trans X2.out);have K4:=kp (set3'_keeps (S:=fun b=>b=w.heap.size) (Keeps.refl _ w3) (b:=w.heap.size) (.inl rfl) (.int .i8 x.kind) (.string x.text) (.slice A x.l.length c));have B4:=kp (show Below w.heap.size w (set3' w3 w.heap.size (.int .i8 x.kind) (.string x.text) (.slice A x.l.length c)) from set3'_below (B2.out.trans (hk3.below (fun k e=>by omega) B2.out.size)) nlq _ _ _);have X4:=kp (set3'_at X3.out (.int .i8 x.kind) (.string x.text) (.slice A x.l.length c));have R4:=kp (set3'_apart hr3 (Ne.symm hne) (.int .i8 x.kind) (.string x.text) (.slice A x.l.length c));have hz2:=R2.out;have HIn4:=kp (hin.on (SameIn.keeps K4.out hin.2.1 (fun b h1 _ e=>by have:=HRl.out;omega)) K4.out.size);obtain ⟨x0,x1,x2,xf⟩:=Bk.c3 X3.out;clear hin hr3 hk3 HR hz2;go_upto_region 5 with fail
 show Code.wp _ _ _ _ (set3' w3 w.heap.size (.int .i8 x.kind) (.string x.text) (.slice A x.l.length c));generalize set3' w3 w.heap.size (.int .i8 x.kind) (.string x.text) (.slice A x.l.length c)=w4 at *;clear x0 x1 x2 xf;obtain ⟨x0,x1,x2,xf⟩:=Bk.c3 X4.out;obtain ⟨r0,r1,r2,rf⟩:=Bk.c3 R4.out;go_wp2_with fail
 refine(HDp.out w4 A c HIn4.out.now).mono ?_;rintro e w5 ⟨rfl,hb5⟩;have X5:=kp (Bk.on X4.out hb5);have R5:=kp (Bk.on R4.out hb5);have B5:=kp (B4.out.trans (hb5.mono B4.out.size));have HIn5:=kp (HIn4.out.below hb5);clear hb5 x0 x1 x2 xf r0 r1 r2 rf;go_upto_region 7 with fail
 have RD:=kp (show w5.drew.heap[w.heap.size+1]?=_ from R5.out);have XD:=kp (show w5.drew.heap[w.heap.size]?=_ from X5.out);refine wp_region_held_drew (S:=fun W=>W.heap[w.heap.size]?=some (.cells #[.int .i8 x.kind,.string x.text,.slice A x.l.length c] 81 (0,0))/\W.heap[w.heap.size+1]?=some (.cells #[.string s,.int .i64 er,.int .i64 0] 122 (0,0))) (by kernel_rfl) (⟨X5.out,R5.out⟩) (fun hHeld=>?_);refine plz [0,1,2,3,4,5,6,7,8] ?_;iterate 9 (refine tnz (v:=?_) ?_ ?_;rotate_left;(focus first | ((intro w hSw;(obtain ⟨x0,x1,x2,xf⟩:=Bk.c3 hSw.1;go_simp;try with_reducible rfl));done) | ((intro w hSw;go_simp;try with_reducible rfl);done) | ((intro w hSw;(obtain ⟨r0,r1,r2,rf⟩:=Bk.c3 hSw.2;go_simp;try with_reducible rfl));done));try simp only [pt])
 refine pzz ?_;obtain ⟨x0,x1,x2,xf⟩:=Bk.c3 XD.out;have BD:=kp B5.out.drew;have InD:=kp (HIn5.out.below ((brq w5).drew));generalize hwd:World.drew _=wd at *;clear hwd;refine rd 9 fun K hK=>?_;go_simp;refine hK.out _ _ (⟨set3'_at hHeld.1 _ _ _,set3'_apart hHeld.2 (Ne.symm hne) _ _ _⟩) (fun hHeld=>?_);clear hK K;try simp only [pt]
 refine plz [10,11] ?_;iterate 2 (refine tnz (v:=?_) ?_ ?_;rotate_left;(focus (intro w hSw;go_simp;try with_reducible rfl));try simp only [pt])
 refine pzz ?_;refine dnz ?_;clear hHeld x0 x1 x2 xf;go_wp2_with fail
 have HK:=set3'_keeps (S:=fun b=>b=w.heap.size) (Keeps.refl _ wd) (b:=w.heap.size) (.inl rfl) (.int .i8 x.kind) (.string x.text) (.slice A x.l.length c)
 exact sread_ret (w:=set3' wd w.heap.size _ _ _) Tryz.results43 (set3'_at XD.out _ _ _) rfl rfl rfl rfl
  ⟨A,c,rfl,(InD.out.on (SameIn.keeps HK InD.out.2.1 (fun b h1 _ e=>by have:=HRl.out;omega)) HK.size).wide (by have:=HRl.out;omega) (by have:=InD.out.2.1;have:=HK.size;omega) nlq,set3'_below BD.out nlq _ _ _⟩
theorem next_end (s:ByteArray) (p:Nat) (w:World) (hp:p<=s.size) (hs:s.size<=140737488351232) (hn:skipL false (from_ s p)=[]) :
  Calls Tryz.prog 105 #[.string s,.int .i64 p] w fun e w'=>e=.returned (.tuple #[.agg #[.int .i8 0,.string { data:=#[] },.int .i64 0,.int .i64 0],.bool false,.int .i64 0])/\Below w.heap.size w w':=by
 have hsk:skipP s p=s.size:=by unfold skipP at_;rw [hn];rfl
 have HK:=kp (fun W=>skip_any s p W hp hs);rw [hsk] at HK;have hqn:((s.size:Int) == (s.size:Int))=true:=by rw [beq_iff_eq]
 have RB:=kp (Bk.keep (Bk.new w (.cells #[.int .i8 0,.string { data:=#[] },.int .i64 0,.int .i64 0] 152)) (.cells #[.func (.func 155) #[] #[],.func (.func 156) #[] #[],.func (.func 157) #[] #[],.func (.func 158) #[] #[],.func (.func 159) #[] #[],.func (.func 160) #[] #[],.func (.func 161) #[] #[]] 233));have BB:=kp (((brq w).alloc nlq (.cells #[.int .i8 0,.string { data:=#[] },.int .i64 0,.int .i64 0] 152)).alloc (by simp) (.cells #[.func (.func 155) #[] #[],.func (.func 156) #[] #[],.func (.func 157) #[] #[],.func (.func 158) #[] #[],.func (.func 159) #[] #[],.func (.func 160) #[] #[],.func (.func 161) #[] #[]] 233));clear hsk hn hs hp
 go_enter Tryz.func105,Tryz.ntmps105
 go_upto_region 2 with fail
 generalize (w.alloc (.cells #[.int .i8 0,.string { data:=#[] },.int .i64 0,.int .i64 0] 152)).alloc (.cells #[.func (.func 155) #[] #[],.func (.func 156) #[] #[],.func (.func 157) #[] #[],.func (.func 158) #[] #[],.func (.func 159) #[] #[],.func (.func 160) #[] #[],.func (.func 161) #[] #[]] 233)=w2 at *;obtain ⟨z0,z1,z2,z3,zf⟩:=Bk.c4 RB.out;go_wp2_with fail
 refine(HK.out _).mono ?_;rintro e w' ⟨rfl,rfl⟩;go_wp2_with fail
 exact tok_ret' (w:=set4t w2 w.heap.size _ _ _ _) Tryz.results105 (set4t_at RB.out _ _ _ _) rfl rfl rfl rfl ⟨rfl,set4t_below BB.out nlq _ _ _ _⟩
def EndCut (W:World) (v3 v4 v5:Value) (V:World):Prop :=
 ∃ tb,v3=.pointer (some ⟨tb,0,none⟩)/\v4=.bool false/\v5=.int .i64 0/\V.heap[tb]?=some (.cells #[.int .i8 0,.string { data:=#[] },.int .i64 0,.int .i64 0] 152 (0,0))/\W.heap.size<=tb/\Below W.heap.size W V
theorem stop_ret {f:Func} {w:World} {b:Nat} {r0 r1 r2:Value} {act:Act} {t:TypeId} {R:Ending->World->Prop} (hf:f.results=#[.cell 6 81]) (hb:w.heap[b]?=some (.cells #[r0,r1,r2] t (0,0))) (h2:act.tmps[6]?=some (.pointer (some ⟨b,0,none⟩))) (hd:act.defers=[]) (hR:R (.returned (.agg #[r0,r1,r2])) w) :
  bodyPost Tryz.prog f R .ret act w:=by
 obtain ⟨y0,y1,y2,_⟩:=Bk.c3 hb;refine bodyPost_ret (v:=.agg #[r0,r1,r2]) ?_ hd hR;simp [results,hf,go_sem,y0,y1,y2,h2]
theorem stop_any (s:ByteArray) (p q E F:Int) (w:World) (rb:Nat) (hrb:w.heap[rb]?=some (.cells #[.string s,.int .i64 p,.int .i64 F] 122 (0,0))) :
  Calls Tryz.prog 106 #[.pointer (some ⟨rb,0,none⟩),.int .i64 E,.int .i64 q] w fun e w'=>e=.returned (.agg #[.int .i8 0,.string { data:=#[] },.slice none 0 0])/\w'.heap[rb]?=some (.cells #[.string s,.int .i64 q,.int .i64 E] 122 (0,0))/\Keeps (fun k=>k=rb) w w':=by
 have RB0:=kp (Bk.keep hrb (.cells #[.int .i8 0,.string { data:=#[] },.slice none 0 0] 81));have XB0:=kp (Bk.new w (.cells #[.int .i8 0,.string { data:=#[] },.slice none 0 0] 81));have K1:=kp (Keeps.of_below ((brq w).alloc nlq (.cells #[.int .i8 0,.string { data:=#[] },.slice none 0 0] 81)) (fun k=>k=rb));have hlt:=lt_of_block hrb;have hn2:rb≠w.heap.size:=by omega
 have hn5:w.heap.size≠rb:=by omega
 clear hrb hlt
 go_enter Tryz.func106,Tryz.ntmps106
 go_upto_region 1 with fail
 generalize w.alloc (.cells #[.int .i8 0,.string { data:=#[] },.slice none 0 0] 81)=w1 at *;obtain ⟨r0,r1,r2,rf⟩:=Bk.c3 RB0.out;have RB1:=kp (Bk.set_at (Bk.set_at RB0.out 2 (.int .i64 E)) 1 (.int .i64 q));have XB1:=kp (Bk.apart (Bk.apart XB0.out (p:=⟨rb,2,none⟩) hn5 (.int .i64 E)) (p:=⟨rb,1,none⟩) hn5 (.int .i64 q));have K2:=kp ((K1.out.setCell (p:=⟨rb,2,none⟩) (.inl rfl) (.int .i64 E)).setCell (p:=⟨rb,1,none⟩) (.inl rfl) (.int .i64 q));simp only [List.setIfInBounds_toArray,List.set_cons_zero,List.set_cons_succ] at RB1;go_upto_region 2 with fail
 generalize (w1.setCell ⟨rb,2,none⟩ (.int .i64 E)).setCell ⟨rb,1,none⟩ (.int .i64 q)=w2 at *;clear r0 r1 r2 rf;obtain ⟨x0,x1,x2,xf⟩:=Bk.c3 XB1.out;go_wp2_with fail
 have KS:=set3'_keeps (S:=fun k=>k=rb) K2.out (b:=w.heap.size) (.inr nlq) (.int .i8 0) (.string { data:=#[] }) (.slice none 0 0);exact stop_ret (w:=set3' w2 w.heap.size _ _ _) Tryz.results106 (set3'_at XB1.out _ _ _) rfl rfl ⟨rfl,set3'_apart RB1.out hn2 _ _ _,KS⟩
theorem one_end (s:ByteArray) (p:Nat) (w:World) (rb:Nat) (hp:p<=s.size) (hs:s.size<=100000) (hn:skipL false (from_ s p)=[]) (hrb:w.heap[rb]?=some (.cells #[.string s,.int .i64 p,.int .i64 0] 122 (0,0))) :
  Calls Tryz.prog 62 #[.pointer (some ⟨rb,0,none⟩)] w fun e w'=>e=.returned (.agg #[.int .i8 0,.string { data:=#[] },.slice none 0 0])/\w'.heap[rb]?=some (.cells #[.string s,.int .i64 s.size,.int .i64 21] 122 (0,0))/\Keeps (fun k=>k=rb) w w':=by
 have HN:=kp (fun W=>next_end s p W hp (by omega) hn);have HSt:=kp (fun W h=>stop_any s p s.size 21 0 W rb h);clear hn hp;have RB0:=kp (Bk.keep hrb (.cells #[.int .i8 0,.string { data:=#[] },.slice none 0 0] 81));have XB0:=kp (Bk.new w (.cells #[.int .i8 0,.string { data:=#[] },.slice none 0 0] 81));have B1:=kp ((brq w).alloc nlq (.cells #[.int .i8 0,.string { data:=#[] },.slice none 0 0] 81));have HRw:=kp (lt_of_block hrb);clear hrb
 go_enter Tryz.func62,Tryz.ntmps62
 go_upto_region 1 with fail
 generalize w.alloc (.cells #[.int .i8 0,.string { data:=#[] },.slice none 0 0] 81)=w1 at *;have HXw:=kp (lt_of_block XB0.out)
 go_cut [3,4,5] from 10 to 22 (fun v3 v4 v5 V=>EndCut w1 v3 v4 v5 V)
 case first =>
  have B0:=kp (brq w1).drew;refine wp_region_held_drew (S:=fun V=>Below w1.heap.size w1 V) (by kernel_rfl) (B0.out) (fun hHeld=>?_);refine plz [0,1,2,3,4,5,6,7] ?_;iterate 8 (refine tnz (v:=?_) ?_ ?_;rotate_left;(focus first | ((intro w hSw;go_simp;try with_reducible rfl);done) | ((intro w hSw;(obtain ⟨r0,r1,r2,rf⟩:=Bk.c3 (Bk.on RB0.out hSw);go_simp;try with_reducible rfl));done));try simp only [pt])
  refine pzz ?_;generalize hwd:World.drew _=wd at *;clear hwd;refine r2y 8 13 (fun K hK=>?_) fun K hK=>?_
  ·skip;go_simp
   go_wp2_with (go_at_call 105;refine(HN.out _).mono ?_;rintro e Wa ⟨rfl,hb⟩;have Ba:=kp (B0.out.trans (hb.mono B0.out.size));clear hb)
   refine hK.out _ _ Ba.out (fun hHeld=>?_);clear hK K;try simp only [pt]
   refine plz [9,10,11,12] ?_;iterate 4 (refine tnz (v:=?_) ?_ ?_;rotate_left;(focus (intro w hSw;go_simp;try with_reducible rfl));try simp only [pt])
   refine pzz ?_;have BA:=kp (Ba.out.alloc Ba.out.size (.cells #[.int .i8 0,.string { data:=#[] },.int .i64 0,.int .i64 0] 152));have XA:=kp (Bk.new Wa (.cells #[.int .i8 0,.string { data:=#[] },.int .i64 0,.int .i64 0] 152));have hxs:=Ba.out.size;refine rd 13 fun K hK=>?_;go_simp;refine hK.out _ _ (BA.out) (fun hHeld=>?_);clear hK K;try simp only [pt]
   generalize Wa.alloc (.cells #[.int .i8 0,.string { data:=#[] },.int .i64 0,.int .i64 0] 152)=wa at *;generalize Wa.heap.size=tb at *;obtain ⟨x0,x1,x2,x3,xf⟩:=Bk.c4 XA.out;refine rd 14 fun K hK=>?_;go_simp;refine hK.out _ _ ((set4t_below BA.out hxs _ _ _ _)) (fun hHeld=>?_);clear hK K;try simp only [pt]
   refine plz [15,16] ?_;iterate 2 (refine tnz (v:=?_) ?_ ?_;rotate_left;(focus (intro w hSw;go_simp;try with_reducible rfl));try simp only [pt])
   refine pzz ?_;refine dnz ?_;clear hHeld;go_wp2_with fail
   go_meet;exact⟨_,rfl,rfl,rfl,set4t_at XA.out _ _ _ _,hxs,set4t_below BA.out hxs _ _ _ _⟩
  ·skip;have BA:=kp (B0.out.alloc B0.out.size (.cells #[.int .i8 0,.string { data:=#[] },.int .i64 0,.int .i64 0] 152));have XA:=kp (Bk.new wd (.cells #[.int .i8 0,.string { data:=#[] },.int .i64 0,.int .i64 0] 152));have hxs:=B0.out.size;go_simp;refine hK.out _ _ BA.out (fun hHeld=>?_);clear hK K;try simp only [pt]
   generalize wd.alloc (.cells #[.int .i8 0,.string { data:=#[] },.int .i64 0,.int .i64 0] 152)=wa at *;generalize wd.heap.size=tb at *;refine rd 8 fun K hK=>?_;go_simp
   go_wp2_with (go_at_call 105;refine(HN.out _).mono ?_;rintro e Wa ⟨rfl,hb⟩;have XB:=kp (Bk.on XA.out hb);have Ba:=kp (BA.out.trans (hb.mono BA.out.size));clear hb)
   refine hK.out _ _ (Ba.out) (fun hHeld=>?_);clear hK K;try simp only [pt]
   refine plz [9,10,11,12] ?_;iterate 4 (refine tnz (v:=?_) ?_ ?_;rotate_left;(focus (intro w hSw;go_simp;try with_reducible rfl));try simp only [pt])
   refine pzz ?_;obtain ⟨x0,x1,x2,x3,xf⟩:=Bk.c4 XB.out;refine rd 14 fun K hK=>?_;go_simp;refine hK.out _ _ ((set4t_below Ba.out hxs _ _ _ _)) (fun hHeld=>?_);clear hK K;try simp only [pt]
   refine plz [15,16] ?_;iterate 2 (refine tnz (v:=?_) ?_ ?_;rotate_left;(focus (intro w hSw;go_simp;try with_reducible rfl));try simp only [pt])
   refine pzz ?_;refine dnz ?_;clear hHeld;go_wp2_with fail
   go_meet;exact⟨_,rfl,rfl,rfl,set4t_at XB.out _ _ _ _,hxs,set4t_below Ba.out hxs _ _ _ _⟩
 case rest =>
  obtain ⟨tb,rfl,rfl,rfl,hT,hle,hb⟩:=hcut;have RB2:=kp (Bk.on RB0.out hb);have XB2:=kp (Bk.on XB0.out hb);have B2:=kp (B1.out.trans (hb.mono B1.out.size));clear hT hle hb;generalize hwb:wc=w2 at *;clear hwb;obtain ⟨r0,r1,r2,rf⟩:=Bk.c3 RB2.out;have hn2:rb≠w.heap.size:=by have:=HRw.out;omega
  have hn5:w.heap.size≠rb:=by have:=HRw.out;omega
  go_wp2_with fail
  refine(HSt.out w2 RB2.out).mono ?_;rintro e w3 ⟨rfl,hr3,hk3⟩;have X3:=kp ((hk3.block _ (lt_of_block XB2.out) hn5).trans XB2.out);have R3:=kp hr3;have K3:=kp (show Keeps (fun k=>k=rb) w w3 from(Keeps.of_below B2.out _).trans hk3 (fun _ _ h=>h));clear r0 r1 r2 rf hr3 hk3;obtain ⟨x0,x1,x2,xf⟩:=Bk.c3 X3.out;go_wp2_with fail
  have KS:=set3'_keeps (S:=fun k=>k=rb) K3.out (b:=w.heap.size) (.inr nlq) (.int .i8 0) (.string { data:=#[] }) (.slice none 0 0);exact one_ret (w:=set3' w3 w.heap.size _ _ _) Tryz.results62 (set3'_at X3.out _ _ _) rfl rfl ⟨rfl,set3'_apart R3.out hn2 _ _ _,KS⟩
theorem sread_end (s:ByteArray) (p:Nat) (w:World) (hp:p<=s.size) (hs:s.size<=100000) (hn:skipL false (from_ s p)=[]) :
  Calls Tryz.prog 43 #[.string s,.int .i64 p] w fun e w'=>e=.returned (.tuple #[.agg #[.int .i8 0,.string { data:=#[] },.slice none 0 0],.int .i64 s.size,.int .i64 21])/\Below w.heap.size w w':=by
 have HR:=kp (fun W rb h=>one_end s p W rb hp hs hn h);have B1:=kp ((brq w).alloc nlq (.cells #[.int .i8 0,.string { data:=#[] },.slice none 0 0] 81));have B2:=kp (B1.out.alloc B1.out.size (.cells #[.string s,.int .i64 p,.int .i64 0] 122));have X2:=kp (Bk.keep (Bk.new w (.cells #[.int .i8 0,.string { data:=#[] },.slice none 0 0] 81)) (.cells #[.string s,.int .i64 p,.int .i64 0] 122))
 have R2:=kp (show((w.alloc (.cells #[.int .i8 0,.string { data:=#[] },.slice none 0 0] 81)).alloc (.cells #[.string s,.int .i64 p,.int .i64 0] 122)).heap[w.heap.size+1]?=some (.cells #[.string s,.int .i64 p,.int .i64 0] 122 (0,0)) by
  have h:=Bk.new (w.alloc (.cells #[.int .i8 0,.string { data:=#[] },.slice none 0 0] 81)) (.cells #[.string s,.int .i64 p,.int .i64 0] 122)
  rwa [show(w.alloc (.cells #[.int .i8 0,.string { data:=#[] },.slice none 0 0] 81)).heap.size=w.heap.size+1 by simp] at h)
 have hp':¬ (p:Int) < 0:=by omega
 clear hn hp
 go_enter Tryz.func43,Tryz.ntmps43
 go_upto_region 4 with fail
 generalize (w.alloc (.cells #[.int .i8 0,.string { data:=#[] },.slice none 0 0] 81)).alloc (.cells #[.string s,.int .i64 p,.int .i64 0] 122)=w2 at *;go_wp2_with fail
 refine(HR.out _ _ R2.out).mono ?_;rintro e w3 ⟨rfl,hr3,hk3⟩;have hne:w.heap.size≠w.heap.size+1:=by omega
 have X3:=kp ((hk3.block _ (lt_of_block X2.out) hne).trans X2.out);have B3:=kp (B2.out.trans (hk3.below (fun k e=>by omega) B2.out.size));have R3:=kp hr3;clear hr3 hk3;obtain ⟨x0,x1,x2,xf⟩:=Bk.c3 X3.out;have B4:=kp (set3'_below B3.out nlq (.int .i8 0) (.string { data:=#[] }) (.slice none 0 0));have X4:=kp (set3'_at X3.out (.int .i8 0) (.string { data:=#[] }) (.slice none 0 0));have R4:=kp (set3'_apart R3.out (Ne.symm hne) (.int .i8 0) (.string { data:=#[] }) (.slice none 0 0));go_upto_region 5 with fail
 show Code.wp _ _ _ _ (set3' w3 w.heap.size (.int .i8 0) (.string { data:=#[] }) (.slice none 0 0));generalize set3' w3 w.heap.size (.int .i8 0) (.string { data:=#[] }) (.slice none 0 0)=w5 at *;clear x0 x1 x2 xf;obtain ⟨x0,x1,x2,xf⟩:=Bk.c3 X4.out;obtain ⟨r0,r1,r2,rf⟩:=Bk.c3 R4.out;go_upto_region 7 with fail
 clear x0 x1 x2 xf r0 r1 r2 rf;have RD:=kp (show w5.drew.heap[w.heap.size+1]?=_ from R4.out);have XD:=kp (show w5.drew.heap[w.heap.size]?=_ from X4.out);refine wp_region_held_drew (S:=fun W=>W.heap[w.heap.size]?=some (.cells #[.int .i8 0,.string { data:=#[] },.slice none 0 0] 81 (0,0))/\W.heap[w.heap.size+1]?=some (.cells #[.string s,.int .i64 s.size,.int .i64 21] 122 (0,0))) (by kernel_rfl) (⟨X4.out,R4.out⟩) (fun hHeld=>?_);refine plz [0,1,2,3,4,5,6,7,8] ?_;iterate 9 (refine tnz (v:=?_) ?_ ?_;rotate_left;(focus first | ((intro w hSw;(obtain ⟨x0,x1,x2,xf⟩:=Bk.c3 hSw.1;go_simp;try with_reducible rfl));done) | ((intro w hSw;go_simp;try with_reducible rfl);done) | ((intro w hSw;(obtain ⟨r0,r1,r2,rf⟩:=Bk.c3 hSw.2;go_simp;try with_reducible rfl));done));try simp only [pt])
 refine pzz ?_;obtain ⟨x0,x1,x2,xf⟩:=Bk.c3 XD.out;have BD:=kp B4.out.drew;generalize hwd:World.drew _=wd at *;clear hwd;refine rd 9 fun K hK=>?_;go_simp;refine hK.out _ _ (⟨set3'_at hHeld.1 _ _ _,set3'_apart hHeld.2 (Ne.symm hne) _ _ _⟩) (fun hHeld=>?_);clear hK K;try simp only [pt]
 refine plz [10,11] ?_;iterate 2 (refine tnz (v:=?_) ?_ ?_;rotate_left;(focus (intro w hSw;go_simp;try with_reducible rfl));try simp only [pt])
 refine pzz ?_;refine dnz ?_;clear hHeld x0 x1 x2 xf;go_wp2_with fail
 exact sread_ret (w:=set3' wd w.heap.size _ _ _) Tryz.results43 (set3'_at XD.out _ _ _) rfl rfl rfl rfl
  ⟨rfl,set3'_below BD.out nlq _ _ _⟩
end Dt
end Go.Proofs.YtmcbolkpbklfeaaGreatDoor
