import Derived.Test.YtpmdcckapddchaaGreatDoorShort
import Derived.Test.YtpmdcckapddchaaGreatDoorMzc
/- merged by wip/merge.py from: SxRead -/
set_option maxRecDepth 100000
set_option maxHeartbeats 51200000
namespace Go.Proofs.YtpmdcckapddchaaGreatDoor
namespace Dt
open Go.RowKit
theorem sread_ret {f:Func} {w:World} {b:Nat} {r0 r1 r2:Value} {E F:Int} {act:Act} {t:TypeId} {R:Ending->World->Prop} (hf:f.results=#[.cell 4 40,.tmp 5,.tmp 6]) (hb:w.heap[b]?=some (.cells #[r0,r1,r2] t (0,0))) (h2:act.tmps[4]?=some (.pointer (some ⟨b,0,none⟩))) (h3:act.tmps[5]?=some (.int .i64 E)) (h4:act.tmps[6]?=some (.int .i64 F)) (hd:act.defers=[]) (hR:R (.returned (.tuple #[.agg #[r0,r1,r2],.int .i64 E,.int .i64 F])) w) :
  bodyPost Tryz.prog f R .ret act w:=by
 obtain ⟨y0,y1,y2,_⟩:=Bk.c3 hb;refine bodyPost_ret (v:=.tuple #[.agg #[r0,r1,r2],.int .i64 E,.int .i64 F]) ?_ hd hR;simp [results,hf,go_sem,y0,y1,y2,h2,h3,h4]
theorem sread_any (s:ByteArray) (p:Nat) (w:World) (x:Sexp) (r:List UInt8) (hp:p<=s.size) (hs:s.size<=100000) (hd:x.depth<=60) (hr:Rd (from_ s p) x r) :
  Calls Tryz.prog 15 #[.string s,.int .i64 p] w (ReadPost w x (at_ s r)):=by
 have HR:=kp (fun W rb h=>one_all _ x (Nat.lt_succ_self _) s p W rb r hp hs hr h);have HDp:=kp (fun W A c h=>depth_any _ x (Nat.lt_succ_self _) W A c h);have B1:=kp ((brq w).alloc nlq (.cells #[.int .i8 0,.string { data:=#[] },.slice none 0 0] 40));have B2:=kp (B1.out.alloc B1.out.size (.cells #[.string s,.int .i64 p,.int .i64 0] 87));have X2:=kp (Bk.keep (Bk.new w (.cells #[.int .i8 0,.string { data:=#[] },.slice none 0 0] 40)) (.cells #[.string s,.int .i64 p,.int .i64 0] 87))
 have R2:=kp (show((w.alloc (.cells #[.int .i8 0,.string { data:=#[] },.slice none 0 0] 40)).alloc (.cells #[.string s,.int .i64 p,.int .i64 0] 87)).heap[w.heap.size+1]?=some (.cells #[.string s,.int .i64 p,.int .i64 0] 87 (0,0)) by
  have h:=Bk.new (w.alloc (.cells #[.int .i8 0,.string { data:=#[] },.slice none 0 0] 40)) (.cells #[.string s,.int .i64 p,.int .i64 0] 87)
  rwa [show(w.alloc (.cells #[.int .i8 0,.string { data:=#[] },.slice none 0 0] 40)).heap.size=w.heap.size+1 by simp] at h)
 have hd':decide ((60:Int) < (x.depth:Int))=false:=dfq (by omega);have hp':¬ (p:Int) < 0:=by omega
 generalize at_ s r=er at *;generalize x.depth=dp at *;unfold OnePost at HR;clear hr hd
 go_enter Tryz.func15,Tryz.ntmps15
 go_upto_region 4 with fail
 generalize (w.alloc (.cells #[.int .i8 0,.string { data:=#[] },.slice none 0 0] 40)).alloc (.cells #[.string s,.int .i64 p,.int .i64 0] 87)=w2 at *;have HRl:=kp (lt_of_block R2.out);go_wp2_with fail
 refine(HR.out _ _ R2.out).mono ?_;rintro e w3 ⟨A,c,rfl,hin,hr3,hk3⟩;have hne:w.heap.size≠w.heap.size+1:=by omega
 have X3:=kp ((hk3.block _ (lt_of_block X2.out) hne).trans X2.out);have K4:=kp (set3'_keeps (S:=fun b=>b=w.heap.size) (Keeps.refl _ w3) (b:=w.heap.size) (.inl rfl) (.int .i8 x.kind) (.string x.text) (.slice A x.l.length c));have B4:=kp (show Below w.heap.size w (set3' w3 w.heap.size (.int .i8 x.kind) (.string x.text) (.slice A x.l.length c)) from set3'_below (B2.out.trans (hk3.below (fun k e=>by omega) B2.out.size)) nlq _ _ _);have X4:=kp (set3'_at X3.out (.int .i8 x.kind) (.string x.text) (.slice A x.l.length c));have R4:=kp (set3'_apart hr3 (Ne.symm hne) (.int .i8 x.kind) (.string x.text) (.slice A x.l.length c));have hz2:=R2.out;have HIn4:=kp (hin.on (SameIn.keeps K4.out hin.2.1 (fun b h1 _ e=>by have:=HRl.out;omega)) K4.out.size);obtain ⟨x0,x1,x2,xf⟩:=Bk.c3 X3.out;clear hin hr3 hk3 HR hz2;go_upto_region 5 with fail
 show Code.wp _ _ _ _ (set3' w3 w.heap.size (.int .i8 x.kind) (.string x.text) (.slice A x.l.length c));generalize set3' w3 w.heap.size (.int .i8 x.kind) (.string x.text) (.slice A x.l.length c)=w4 at *;clear x0 x1 x2 xf;obtain ⟨x0,x1,x2,xf⟩:=Bk.c3 X4.out;obtain ⟨r0,r1,r2,rf⟩:=Bk.c3 R4.out;go_wp2_with fail
 refine(HDp.out w4 A c HIn4.out.now).mono ?_;rintro e w5 ⟨rfl,hb5⟩;have X5:=kp (Bk.on X4.out hb5);have R5:=kp (Bk.on R4.out hb5);have B5:=kp (B4.out.trans (hb5.mono B4.out.size));have HIn5:=kp (HIn4.out.below hb5);clear hb5 x0 x1 x2 xf r0 r1 r2 rf;go_upto_region 7 with fail
 have RD:=kp (show w5.drew.heap[w.heap.size+1]?=_ from R5.out);have XD:=kp (show w5.drew.heap[w.heap.size]?=_ from X5.out);refine wp_region_held_drew (S:=fun W=>W.heap[w.heap.size]?=some (.cells #[.int .i8 x.kind,.string x.text,.slice A x.l.length c] 40 (0,0))/\W.heap[w.heap.size+1]?=some (.cells #[.string s,.int .i64 er,.int .i64 0] 87 (0,0))) (by kernel_rfl) (⟨X5.out,R5.out⟩) (fun hHeld=>?_);refine plz [0,1,2,3,4,5,6,7,8] ?_;iterate 9 (refine tnz (v:=?_) ?_ ?_;rotate_left;(focus first | ((intro w hSw;(obtain ⟨x0,x1,x2,xf⟩:=Bk.c3 hSw.1;go_simp;try with_reducible rfl));done) | ((intro w hSw;go_simp;try with_reducible rfl);done) | ((intro w hSw;(obtain ⟨r0,r1,r2,rf⟩:=Bk.c3 hSw.2;go_simp;try with_reducible rfl));done));try simp only [pt])
 refine pzz ?_;obtain ⟨x0,x1,x2,xf⟩:=Bk.c3 XD.out;have BD:=kp B5.out.drew;have InD:=kp (HIn5.out.below ((brq w5).drew));generalize hwd:World.drew _=wd at *;clear hwd;refine rd 9 fun K hK=>?_;go_simp;refine hK.out _ _ (⟨set3'_at hHeld.1 _ _ _,set3'_apart hHeld.2 (Ne.symm hne) _ _ _⟩) (fun hHeld=>?_);clear hK K;try simp only [pt]
 refine plz [10,11] ?_;iterate 2 (refine tnz (v:=?_) ?_ ?_;rotate_left;(focus (intro w hSw;go_simp;try with_reducible rfl));try simp only [pt])
 refine pzz ?_;refine dnz ?_;clear hHeld x0 x1 x2 xf;go_wp2_with fail
 have HK:=set3'_keeps (S:=fun b=>b=w.heap.size) (Keeps.refl _ wd) (b:=w.heap.size) (.inl rfl) (.int .i8 x.kind) (.string x.text) (.slice A x.l.length c)
 exact sread_ret (w:=set3' wd w.heap.size _ _ _) Tryz.results15 (set3'_at XD.out _ _ _) rfl rfl rfl rfl
  ⟨A,c,rfl,(InD.out.on (SameIn.keeps HK InD.out.2.1 (fun b h1 _ e=>by have:=HRl.out;omega)) HK.size).wide (by have:=HRl.out;omega) (by have:=InD.out.2.1;have:=HK.size;omega) nlq,set3'_below BD.out nlq _ _ _⟩
end Dt
end Go.Proofs.YtpmdcckapddchaaGreatDoor
