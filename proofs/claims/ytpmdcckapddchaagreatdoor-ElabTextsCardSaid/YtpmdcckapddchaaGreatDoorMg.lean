import Derived.Test.YtpmdcckapddchaaGreatDoorShort
import Derived.Test.YtpmdcckapddchaaGreatDoorMf
import Derived.Test.YtpmdcckapddchaaGreatDoorMb
import Derived.Deep.RegionHeld3
import Derived.Deep.Cut
import Derived.Test.YtpmdcckapddchaaGreatDoorMe
/- merged by wip/merge.py from: ElFind -/
set_option maxRecDepth 100000
set_option maxHeartbeats 51200000
namespace Go.Proofs.YtpmdcckapddchaaGreatDoor
namespace El
open Go.RowKit Go.Maps Dt Sg
theorem ofFun_any {w:World} (nm:ByteArray) (v1 v2 v3 v4 v5:Int) :
  Calls Tryz.prog 157 #[.agg #[.string nm,.int .i64 v1,.int .i64 v2,.int .i64 v3,.int .i64 v4,.int .i64 v5]] w fun e w'=>e=.returned (.string nm)/\Below w.heap.size w w':=by
 have XB:=kp (Bk.new w (.cells #[.string nm,.int .i64 v1,.int .i64 v2,.int .i64 v3,.int .i64 v4,.int .i64 v5] 108));have B1:=kp ((brq w).alloc nlq (.cells #[.string nm,.int .i64 v1,.int .i64 v2,.int .i64 v3,.int .i64 v4,.int .i64 v5] 108))
 go_enter Tryz.func157,Tryz.ntmps157
 go_upto_region 1 with fail
 generalize w.alloc (.cells #[.string nm,.int .i64 v1,.int .i64 v2,.int .i64 v3,.int .i64 v4,.int .i64 v5] 108)=w1 at *;obtain ⟨q0,q1,q2,q3,q4,q5,qf⟩:=Bk.c6 XB.out;go_wp2_with fail
 go_ret;exact⟨rfl,B1.out⟩
theorem clFun_any {w:World} {ob nb:Nat} {s:ByteArray} (nm:ByteArray) (v1 v2 v3 v4 v5:Int) (ho:w.heap[ob]?=some (.cells #[.func (.func 157) #[] #[]] 201 (0,0))) (hn:w.heap[nb]?=some (.cells #[.string s] 9 (0,0))) :
  Calls Tryz.prog 181 #[.agg #[.string nm,.int .i64 v1,.int .i64 v2,.int .i64 v3,.int .i64 v4,.int .i64 v5],.pointer (some ⟨ob,0,none⟩),.pointer (some ⟨nb,0,none⟩)] w fun e w'=>e=.returned (.bool (decide (nm=s)))/\Below w.heap.size w w':=by
 have XB:=kp (Bk.new w (.cells #[.string nm,.int .i64 v1,.int .i64 v2,.int .i64 v3,.int .i64 v4,.int .i64 v5] 108));have B1:=kp ((brq w).alloc nlq (.cells #[.string nm,.int .i64 v1,.int .i64 v2,.int .i64 v3,.int .i64 v4,.int .i64 v5] 108));have OB:=kp (Bk.on ho B1.out);have NB:=kp (Bk.on hn B1.out);have HOf:=kp (fun W=>ofFun_any (w:=W) nm v1 v2 v3 v4 v5)
 have HQ:=kp (show(nm.toList == s.toList)=decide (nm=s) by
  by_cases h:nm=s
  ·subst h;simp
  ·rw [text_ne h,dfq h])
 clear ho hn
 go_enter Tryz.func181,Tryz.ntmps181
 go_upto_region 1 with fail
 generalize w.alloc (.cells #[.string nm,.int .i64 v1,.int .i64 v2,.int .i64 v3,.int .i64 v4,.int .i64 v5] 108)=w1 at *;have B0:=kp (brq w1).drew;refine wp_region_held_drew (S:=fun W=>Below w1.heap.size w1 W) (by kernel_rfl) (B0.out) (fun hHeld=>?_);refine plz [0,1,3] ?_;iterate 3 (refine tnz (v:=?_) ?_ ?_;rotate_left;(focus first | ((intro w hSw;(obtain ⟨q0,qf⟩:=Bk.c1 (Bk.on OB.out hSw);go_simp;try with_reducible rfl));done) | ((intro w hSw;(obtain ⟨q0,q1,q2,q3,q4,q5,qf⟩:=Bk.c6 (Bk.on XB.out hSw);go_simp;try with_reducible rfl));done) | ((intro w hSw;(obtain ⟨q0,qf⟩:=Bk.c1 (Bk.on NB.out hSw);go_simp;try with_reducible rfl));done));try simp only [pt])
 refine pzz ?_;refine rd 2 fun K hK=>?_;go_simp;refine(HOf.out _).mono ?_;rintro e w2 ⟨rfl,hb2⟩;have B2:=kp (B0.out.trans (hb2.mono B0.out.size));clear hb2;refine hK.out _ _ B2.out (fun hHeld=>?_);clear hK K;refine plz [4,5] ?_;iterate 2 (refine tnz (v:=?_) ?_ ?_;rotate_left;(focus (intro w hSw;go_simp;try with_reducible rfl));try simp only [pt])
 refine pzz ?_;refine dnz ?_;go_wp2_with fail
 go_ret;exact⟨by rw [← HQ.out];rfl,B1.out.trans (B2.out.mono B1.out.size)⟩
theorem ofMac_any {w:World} (nm:ByteArray) (v1:Option Addr) (n1 c1:Nat) (v2 v3:Int) (v4:ByteArray) (v5:Option Addr) (n5 c5:Nat) :
  Calls Tryz.prog 159 #[.agg #[.string nm,.slice v1 n1 c1,.int .i64 v2,.int .i8 v3,.string v4,.slice v5 n5 c5]] w fun e w'=>e=.returned (.string nm)/\Below w.heap.size w w':=by
 have XB:=kp (Bk.new w (.cells #[.string nm,.slice v1 n1 c1,.int .i64 v2,.int .i8 v3,.string v4,.slice v5 n5 c5] 58));have B1:=kp ((brq w).alloc nlq (.cells #[.string nm,.slice v1 n1 c1,.int .i64 v2,.int .i8 v3,.string v4,.slice v5 n5 c5] 58))
 go_enter Tryz.func159,Tryz.ntmps159
 go_upto_region 1 with fail
 generalize w.alloc (.cells #[.string nm,.slice v1 n1 c1,.int .i64 v2,.int .i8 v3,.string v4,.slice v5 n5 c5] 58)=w1 at *;obtain ⟨q0,q1,q2,q3,q4,q5,qf⟩:=Bk.c6 XB.out;go_wp2_with fail
 go_ret;exact⟨rfl,B1.out⟩
theorem clMac_any {w:World} {ob nb:Nat} {s:ByteArray} (nm:ByteArray) (v1:Option Addr) (n1 c1:Nat) (v2 v3:Int) (v4:ByteArray) (v5:Option Addr) (n5 c5:Nat) (ho:w.heap[ob]?=some (.cells #[.func (.func 159) #[] #[]] 204 (0,0))) (hn:w.heap[nb]?=some (.cells #[.string s] 9 (0,0))) :
  Calls Tryz.prog 183 #[.agg #[.string nm,.slice v1 n1 c1,.int .i64 v2,.int .i8 v3,.string v4,.slice v5 n5 c5],.pointer (some ⟨ob,0,none⟩),.pointer (some ⟨nb,0,none⟩)] w fun e w'=>e=.returned (.bool (decide (nm=s)))/\Below w.heap.size w w':=by
 have XB:=kp (Bk.new w (.cells #[.string nm,.slice v1 n1 c1,.int .i64 v2,.int .i8 v3,.string v4,.slice v5 n5 c5] 58));have B1:=kp ((brq w).alloc nlq (.cells #[.string nm,.slice v1 n1 c1,.int .i64 v2,.int .i8 v3,.string v4,.slice v5 n5 c5] 58));have OB:=kp (Bk.on ho B1.out);have NB:=kp (Bk.on hn B1.out);have HOf:=kp (fun W=>ofMac_any (w:=W) nm v1 n1 c1 v2 v3 v4 v5 n5 c5)
 have HQ:=kp (show(nm.toList == s.toList)=decide (nm=s) by
  by_cases h:nm=s
  ·subst h;simp
  ·rw [text_ne h,dfq h])
 clear ho hn
 go_enter Tryz.func183,Tryz.ntmps183
 go_upto_region 1 with fail
 generalize w.alloc (.cells #[.string nm,.slice v1 n1 c1,.int .i64 v2,.int .i8 v3,.string v4,.slice v5 n5 c5] 58)=w1 at *;have B0:=kp (brq w1).drew;refine wp_region_held_drew (S:=fun W=>Below w1.heap.size w1 W) (by kernel_rfl) (B0.out) (fun hHeld=>?_);refine plz [0,1,3] ?_;iterate 3 (refine tnz (v:=?_) ?_ ?_;rotate_left;(focus first | ((intro w hSw;(obtain ⟨q0,qf⟩:=Bk.c1 (Bk.on OB.out hSw);go_simp;try with_reducible rfl));done) | ((intro w hSw;(obtain ⟨q0,q1,q2,q3,q4,q5,qf⟩:=Bk.c6 (Bk.on XB.out hSw);go_simp;try with_reducible rfl));done) | ((intro w hSw;(obtain ⟨q0,qf⟩:=Bk.c1 (Bk.on NB.out hSw);go_simp;try with_reducible rfl));done));try simp only [pt])
 refine pzz ?_;refine rd 2 fun K hK=>?_;go_simp;refine(HOf.out _).mono ?_;rintro e w2 ⟨rfl,hb2⟩;have B2:=kp (B0.out.trans (hb2.mono B0.out.size));clear hb2;refine hK.out _ _ B2.out (fun hHeld=>?_);clear hK K;refine plz [4,5] ?_;iterate 2 (refine tnz (v:=?_) ?_ ?_;rotate_left;(focus (intro w hSw;go_simp;try with_reducible rfl));try simp only [pt])
 refine pzz ?_;refine dnz ?_;go_wp2_with fail
 go_ret;exact⟨by rw [← HQ.out];rfl,B1.out.trans (B2.out.mono B1.out.size)⟩
theorem idxFun_any {w:World} {ob nb c:Nat} {s:ByteArray} {A:Option Addr} {l:List Fun4} (hl:Lies 6 FunR w A l) (hlen:(l.length:Int)<=140737488351232) (ho:w.heap[ob]?=some (.cells #[.func (.func 157) #[] #[]] 201 (0,0))) (hn:w.heap[nb]?=some (.cells #[.string s] 9 (0,0))) :
  Calls Tryz.prog 180 #[.slice A l.length c,.func (.func 181) #[] #[.pointer (some ⟨ob,0,none⟩),.pointer (some ⟨nb,0,none⟩)]] w fun e w'=>e=.returned (.int .i64 (if hasB (l.map Fun4.name) s then(findAt (l.map Fun4.name) s:Nat) else -1))/\Below w.heap.size w w':=by
 have HL:=kp hl;have OB:=kp ho;have NB:=kp hn;have HX:=kp (fun k hk h=>findAt_stop (l:=l.map Fun4.name) (s:=s) (k:=k) hk h);have HN:=kp (fun h=>findAt_none (l:=l.map Fun4.name) (s:=s) h);have HS:=kp (fun k x hk h h'=>find_step (l:=l.map Fun4.name) (s:=s) (k:=k) (x:=x) hk h h');have HM:=kp (fun k x=>map_at (l:=l) (nm:=Fun4.name) (k:=k) (x:=x));have hln:(l.map Fun4.name).length=l.length:=by simp
 clear hl ho hn;generalize l.map Fun4.name=ns at *;generalize hres:(if hasB ns s then((findAt ns s:Nat):Int) else -1)=res;have HR:=kp hres;clear hres
 go_enter Tryz.func180,Tryz.ntmps180
 go_wp2_with fail
 go_loopw [8] (fun v wr=>∃ k:Nat,k<=l.length/\v=.int .i64 k/\hasB (ns.take k) s=false/\Below w.heap.size w wr) (fun v _=>l.length - (intOf v).toNat)
 case atStart=>exact⟨0,Nat.zero_le _,rfl,rfl,Below.refl _ _⟩
 case round =>
  obtain ⟨k,hk,rfl,hn,hb⟩:=hrel;have HK:=kp hn;have HB:=kp hb;clear hn hb
  by_cases hlt:k < l.length
  ·have hlt2:(k:Int) < (l.length:Int):=by omega
   obtain ⟨y,hy⟩:∃ y,l[k]?=some y:=⟨_,gqe hlt⟩;obtain ⟨b,o,vs,rfl,hbl,_,hcell,hr⟩:=(HL.out.on FunR.lasts HB.out).at' hy;obtain ⟨rfl,_⟩:=hr;have c0:=hcell 0 _ rfl;have c1:=hcell 1 _ rfl;have c2:=hcell 2 _ rfl;have c3:=hcell 3 _ rfl;have c4:=hcell 4 _ rfl;have c5:=hcell 5 _ rfl;rw [Nat.add_zero] at c0;have HX2:=kp (HM.out k y hy);have HC:=kp (clFun_any (w:=wr) y.name y.len y.a0 y.a1 y.a2 y.res (Bk.on OB.out HB.out) (Bk.on NB.out HB.out));clear hcell hy
   by_cases hq:Fun4.name y=s
   ·have HQ:=kp (HX.out k (by rw [← hq];exact HX2.out) HK.out);rw [decide_eq_true hq] at HC;clear hq;go_wp2_with fail
    refine HC.out.mono ?_;rintro e w2 ⟨rfl,hb2⟩;have HB2:=kp (HB.out.trans (hb2.mono HB.out.size));clear hb2;go_wp2_with fail
    go_ret;exact⟨by rw [← HR.out,HQ.out.2,HQ.out.1];rfl,HB2.out⟩
   ·have HQ:=kp (HS.out k _ HX2.out HK.out hq);rw [dfq hq] at HC;clear hq;go_wp2_with fail
    refine HC.out.mono ?_;rintro e w2 ⟨rfl,hb2⟩;have HB2:=kp (HB.out.trans (hb2.mono HB.out.size));clear hb2;go_wp2_with fail
    go_roundw
    case rel=>exact⟨k+1,by omega,by go_num,HQ.out,HB2.out⟩
    case measure=>simp [intOf];omega
  ·obtain rfl:k=l.length:=by omega
   have HQ:=kp (HN.out (by have:=HK.out;rwa [List.take_of_length_le (by omega)] at this));go_wp2_with fail
   go_ret;exact⟨by rw [← HR.out,HQ.out.2];rfl,HB.out⟩
theorem findFun_any {w:World} {c:Nat} (s:ByteArray) {A:Option Addr} {l:List Fun4} (hl:Lies 6 FunR w A l) (hlen:(l.length:Int)<=140737488351232) :
  Calls Tryz.prog 156 #[.slice A l.length c,.func (.func 157) #[] #[],.string s] w fun e w'=>e=.returned (.tuple #[.int .i64 (findAt (l.map Fun4.name) s:Nat),.bool (hasB (l.map Fun4.name) s)])/\Below w.heap.size w w':=by
 have B1:=kp ((brq w).alloc nlq (.cells #[.func (.func 157) #[] #[]] 201));have Z1:=kp (show(w.alloc (.cells #[.func (.func 157) #[] #[]] 201)).heap.size=w.heap.size+1 by simp);have OB:=kp (Bk.keep (Bk.new w (.cells #[.func (.func 157) #[] #[]] 201)) (.cells #[.string s] 9));have NB:=kp (Bk.new (w.alloc (.cells #[.func (.func 157) #[] #[]] 201)) (.cells #[.string s] 9));have B2:=kp (B1.out.alloc B1.out.size (.cells #[.string s] 9));rw [Z1.out] at NB;have HI:=kp (idxFun_any (c:=c) (hl.on FunR.lasts B2.out) hlen OB.out NB.out);have HE:=kp (show hasB (l.map Fun4.name) s=false->findAt (l.map Fun4.name) s=0 from fun h=>(findAt_none h).1)
 have hfl:((findAt (l.map Fun4.name) s:Nat):Int)<=140737488351232:=by
  have h1:findAt (l.map Fun4.name) s<=l.length:=by
   unfold findAt
   split
   ·exact Nat.le_trans List.findIdx_le_length (by simp)
   ·omega
  omega
 clear hl;generalize findAt (l.map Fun4.name) s=fa at *;generalize hasB (l.map Fun4.name) s=hb at *
 go_enter Tryz.func156,Tryz.ntmps156
 go_upto_region 1 with fail
 generalize (w.alloc (.cells #[.func (.func 157) #[] #[]] 201)).alloc (.cells #[.string s] 9)=w1 at *
 cases hb with
 | true =>
  go_wp2_with fail
  refine HI.out.mono ?_;rintro e w2 ⟨rfl,hb2⟩;have B3:=kp (B2.out.trans (hb2.mono B2.out.size));clear hb2;have hmx:max ((fa:Nat):Int) 0=(fa:Int):=by omega
  go_wp2_with fail
  go_ret2;exact⟨rfl,B3.out⟩
 | false =>
  obtain rfl:=HE.out rfl;go_wp2_with fail
  refine HI.out.mono ?_;rintro e w2 ⟨rfl,hb2⟩;have B3:=kp (B2.out.trans (hb2.mono B2.out.size));clear hb2;go_wp2_with fail
  go_ret2;exact⟨rfl,B3.out⟩
theorem idxMac_any {w:World} {ob nb c:Nat} {s:ByteArray} {A:Option Addr} {l:List Macro} (hl:Lies 6 MacroR w A l) (hlen:(l.length:Int)<=140737488351232) (ho:w.heap[ob]?=some (.cells #[.func (.func 159) #[] #[]] 204 (0,0))) (hn:w.heap[nb]?=some (.cells #[.string s] 9 (0,0))) :
  Calls Tryz.prog 182 #[.slice A l.length c,.func (.func 183) #[] #[.pointer (some ⟨ob,0,none⟩),.pointer (some ⟨nb,0,none⟩)]] w fun e w'=>e=.returned (.int .i64 (if hasB (l.map Macro.name) s then(findAt (l.map Macro.name) s:Nat) else -1))/\Below w.heap.size w w':=by
 have HL:=kp hl;have OB:=kp ho;have NB:=kp hn;have HX:=kp (fun k hk h=>findAt_stop (l:=l.map Macro.name) (s:=s) (k:=k) hk h);have HN:=kp (fun h=>findAt_none (l:=l.map Macro.name) (s:=s) h);have HS:=kp (fun k x hk h h'=>find_step (l:=l.map Macro.name) (s:=s) (k:=k) (x:=x) hk h h');have HM:=kp (fun k x=>map_at (l:=l) (nm:=Macro.name) (k:=k) (x:=x));have hln:(l.map Macro.name).length=l.length:=by simp
 clear hl ho hn;generalize l.map Macro.name=ns at *;generalize hres:(if hasB ns s then((findAt ns s:Nat):Int) else -1)=res;have HR:=kp hres;clear hres
 go_enter Tryz.func182,Tryz.ntmps182
 go_wp2_with fail
 go_loopw [8] (fun v wr=>∃ k:Nat,k<=l.length/\v=.int .i64 k/\hasB (ns.take k) s=false/\Below w.heap.size w wr) (fun v _=>l.length - (intOf v).toNat)
 case atStart=>exact⟨0,Nat.zero_le _,rfl,rfl,Below.refl _ _⟩
 case round =>
  obtain ⟨k,hk,rfl,hn,hb⟩:=hrel;have HK:=kp hn;have HB:=kp hb;clear hn hb
  by_cases hlt:k < l.length
  ·have hlt2:(k:Int) < (l.length:Int):=by omega
   obtain ⟨y,hy⟩:∃ y,l[k]?=some y:=⟨_,gqe hlt⟩;obtain ⟨b,o,vs,rfl,hbl,_,hcell,hr⟩:=(HL.out.on MacroR.lasts HB.out).at' hy
   (obtain ⟨pA,pc,bv,rfl,hbv,_⟩:=hr;obtain ⟨bA,bc,rfl,_⟩:=hbv.open')
   have c0:=hcell 0 _ rfl;have c1:=hcell 1 _ rfl;have c2:=hcell 2 _ rfl;have c3:=hcell 3 _ rfl;have c4:=hcell 4 _ rfl;have c5:=hcell 5 _ rfl;rw [Nat.add_zero] at c0;have HX2:=kp (HM.out k y hy);have HC:=kp (clMac_any (w:=wr) y.name pA y.params.length pc y.res y.body.kind y.body.text bA y.body.l.length bc (Bk.on OB.out HB.out) (Bk.on NB.out HB.out));clear hcell hy
   by_cases hq:Macro.name y=s
   ·have HQ:=kp (HX.out k (by rw [← hq];exact HX2.out) HK.out);rw [decide_eq_true hq] at HC;clear hq;go_wp2_with fail
    refine HC.out.mono ?_;rintro e w2 ⟨rfl,hb2⟩;have HB2:=kp (HB.out.trans (hb2.mono HB.out.size));clear hb2;go_wp2_with fail
    go_ret;exact⟨by rw [← HR.out,HQ.out.2,HQ.out.1];rfl,HB2.out⟩
   ·have HQ:=kp (HS.out k _ HX2.out HK.out hq);rw [dfq hq] at HC;clear hq;go_wp2_with fail
    refine HC.out.mono ?_;rintro e w2 ⟨rfl,hb2⟩;have HB2:=kp (HB.out.trans (hb2.mono HB.out.size));clear hb2;go_wp2_with fail
    go_roundw
    case rel=>exact⟨k+1,by omega,by go_num,HQ.out,HB2.out⟩
    case measure=>simp [intOf];omega
  ·obtain rfl:k=l.length:=by omega
   have HQ:=kp (HN.out (by have:=HK.out;rwa [List.take_of_length_le (by omega)] at this));go_wp2_with fail
   go_ret;exact⟨by rw [← HR.out,HQ.out.2];rfl,HB.out⟩
theorem findMac_any {w:World} {c:Nat} (s:ByteArray) {A:Option Addr} {l:List Macro} (hl:Lies 6 MacroR w A l) (hlen:(l.length:Int)<=140737488351232) :
  Calls Tryz.prog 158 #[.slice A l.length c,.func (.func 159) #[] #[],.string s] w fun e w'=>e=.returned (.tuple #[.int .i64 (findAt (l.map Macro.name) s:Nat),.bool (hasB (l.map Macro.name) s)])/\Below w.heap.size w w':=by
 have B1:=kp ((brq w).alloc nlq (.cells #[.func (.func 159) #[] #[]] 204));have Z1:=kp (show(w.alloc (.cells #[.func (.func 159) #[] #[]] 204)).heap.size=w.heap.size+1 by simp);have OB:=kp (Bk.keep (Bk.new w (.cells #[.func (.func 159) #[] #[]] 204)) (.cells #[.string s] 9));have NB:=kp (Bk.new (w.alloc (.cells #[.func (.func 159) #[] #[]] 204)) (.cells #[.string s] 9));have B2:=kp (B1.out.alloc B1.out.size (.cells #[.string s] 9));rw [Z1.out] at NB;have HI:=kp (idxMac_any (c:=c) (hl.on MacroR.lasts B2.out) hlen OB.out NB.out);have HE:=kp (show hasB (l.map Macro.name) s=false->findAt (l.map Macro.name) s=0 from fun h=>(findAt_none h).1)
 have hfl:((findAt (l.map Macro.name) s:Nat):Int)<=140737488351232:=by
  have h1:findAt (l.map Macro.name) s<=l.length:=by
   unfold findAt
   split
   ·exact Nat.le_trans List.findIdx_le_length (by simp)
   ·omega
  omega
 clear hl;generalize findAt (l.map Macro.name) s=fa at *;generalize hasB (l.map Macro.name) s=hb at *
 go_enter Tryz.func158,Tryz.ntmps158
 go_upto_region 1 with fail
 generalize (w.alloc (.cells #[.func (.func 159) #[] #[]] 204)).alloc (.cells #[.string s] 9)=w1 at *
 cases hb with
 | true =>
  go_wp2_with fail
  refine HI.out.mono ?_;rintro e w2 ⟨rfl,hb2⟩;have B3:=kp (B2.out.trans (hb2.mono B2.out.size));clear hb2;have hmx:max ((fa:Nat):Int) 0=(fa:Int):=by omega
  go_wp2_with fail
  go_ret2;exact⟨rfl,B3.out⟩
 | false =>
  obtain rfl:=HE.out rfl;go_wp2_with fail
  refine HI.out.mono ?_;rintro e w2 ⟨rfl,hb2⟩;have B3:=kp (B2.out.trans (hb2.mono B2.out.size));clear hb2;go_wp2_with fail
  go_ret2;exact⟨rfl,B3.out⟩
theorem sigFun_any {w:World} {A1 A2 A3:Option Addr} {n1 c1 c2 n3 c3:Nat} (s:ByteArray) {l:List Fun4} (hl:Lies 6 FunR w A2 l) (hlen:(l.length:Int)<=140737488351232) :
  Calls Tryz.prog 97 #[.agg #[.slice A1 n1 c1,.slice A2 l.length c2,.slice A3 n3 c3],.string s] w fun e w'=>e=.returned (.tuple #[.int .i64 (findAt (l.map Fun4.name) s:Nat),.bool (hasB (l.map Fun4.name) s)])/\Below w.heap.size w w':=by
 have XB:=kp (Bk.new w (.cells #[.slice A1 n1 c1,.slice A2 l.length c2,.slice A3 n3 c3] 26));have B1:=kp ((brq w).alloc nlq (.cells #[.slice A1 n1 c1,.slice A2 l.length c2,.slice A3 n3 c3] 26));have HF:=kp (findFun_any (c:=c2) s (hl.on FunR.lasts B1.out) hlen);clear hl
 go_enter Tryz.func97,Tryz.ntmps97
 go_upto_region 1 with fail
 generalize w.alloc (.cells #[.slice A1 n1 c1,.slice A2 l.length c2,.slice A3 n3 c3] 26)=w1 at *;obtain ⟨q0,q1,q2,qf⟩:=Bk.c3 XB.out;go_wp2_with fail
 refine HF.out.mono ?_;rintro e w2 ⟨rfl,hb2⟩;have B2:=kp (B1.out.trans (hb2.mono B1.out.size));clear hb2;go_wp2_with fail
 go_ret2;exact⟨rfl,B2.out⟩
theorem sigMac_any {w:World} {A1 A2 A3:Option Addr} {n1 c1 n2 c2 c3:Nat} (s:ByteArray) {l:List Macro} (hl:Lies 6 MacroR w A3 l) (hlen:(l.length:Int)<=140737488351232) :
  Calls Tryz.prog 99 #[.agg #[.slice A1 n1 c1,.slice A2 n2 c2,.slice A3 l.length c3],.string s] w fun e w'=>e=.returned (.tuple #[.int .i64 (findAt (l.map Macro.name) s:Nat),.bool (hasB (l.map Macro.name) s)])/\Below w.heap.size w w':=by
 have XB:=kp (Bk.new w (.cells #[.slice A1 n1 c1,.slice A2 n2 c2,.slice A3 l.length c3] 26));have B1:=kp ((brq w).alloc nlq (.cells #[.slice A1 n1 c1,.slice A2 n2 c2,.slice A3 l.length c3] 26));have HF:=kp (findMac_any (c:=c3) s (hl.on MacroR.lasts B1.out) hlen);clear hl
 go_enter Tryz.func99,Tryz.ntmps99
 go_upto_region 1 with fail
 generalize w.alloc (.cells #[.slice A1 n1 c1,.slice A2 n2 c2,.slice A3 l.length c3] 26)=w1 at *;obtain ⟨q0,q1,q2,qf⟩:=Bk.c3 XB.out;go_wp2_with fail
 refine HF.out.mono ?_;rintro e w2 ⟨rfl,hb2⟩;have B2:=kp (B1.out.trans (hb2.mono B1.out.size));clear hb2;go_wp2_with fail
 go_ret2;exact⟨rfl,B2.out⟩
end El
end Go.Proofs.YtpmdcckapddchaaGreatDoor
