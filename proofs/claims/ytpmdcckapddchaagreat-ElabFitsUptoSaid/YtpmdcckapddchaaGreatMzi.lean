import Derived.Test.YtpmdcckapddchaaGreatShort
import Derived.Test.YtpmdcckapddchaaGreatMzh
import Derived.Test.YtpmdcckapddchaaGreatMu
import Derived.Test.YtpmdcckapddchaaGreatMj
import Derived.Test.YtpmdcckapddchaaGreatMe
import Derived.Test.YtpmdcckapddchaaGreatMq
import Derived.Test.YtpmdcckapddchaaGreatMze
import Derived.Test.YtpmdcckapddchaaGreatMg
import Derived.Test.YtpmdcckapddchaaGreatMzf
/- merged by wip/merge.py from: ElSort ElFits ElMakes Law7Fits Rd8 Rd9 -/
set_option maxRecDepth 100000
set_option maxHeartbeats 51200000
namespace Go.Proofs.YtpmdcckapddchaaGreat
namespace El
open Go.RowKit Go.Maps Dt Sg
def pairV (q:Param):ByteArray × V:=(q.name,(q.sort,(0:Int)))
theorem envOf_eq (vars:List Param):envOf vars=(vars.map pairV).reverse:=rfl
theorem par_sort {W0:World} {A:Option Addr} {l:List Param} (h:Lies 2 ParamR W0 A l) {q:Param} (hq:q ∈ l):I64 q.sort:=by
 obtain ⟨k,hk⟩:=List.getElem?_of_mem hq;obtain ⟨_,_,_,_,_,_,_,_,_,hs⟩:=h.at' hk;exact hs
theorem Mk.made {F:Fix} {W:World} {known:Int} {t:List Node} {At:Option Addr} {ct:Nat} (hmb:F.mb=W.heap.size) (hb:Below F.W0.heap.size F.W0 W) (ht:Lies 8 NodeR W At t) (hle:t.length<=ct) (hlm:ct<=maxLen) (hlen:t.length<=1000000) :
  Mk F (W.alloc (.cells #[.slice F.A1 F.c.g.sorts.length F.c1,.slice F.A2 F.c.g.funs.length F.c2,.slice F.A3 F.c.g.macros.length F.c3,.slice At t.length ct,.int .i64 F.c.most,.bool F.c.build,.int .i64 known,.int .i64 0,.int .i64 0] 67)) known (st0 t) At ct:=by
 refine⟨by rw [hmb];exact Bk.new W _,hle,hlm,hlen,ht.on NodeR.lasts ((Below.refl _ _).alloc nlq _),fun hn b o e=>?_,⟨by show(0:Int)<=0;omega,by show(0:Int)<=301;omega,fun _=>by show(0:Int)<=300;omega⟩,hb.alloc hb.size _⟩;have:=lies_lt ht hn b o e
 omega
theorem sort_any {w:World} {A1 A2 A3:Option Addr} {c1 c2 c3:Nat} {g:Sig} (h:SigAt w A1 c1 A2 c2 A3 c3 g) (hl1:g.sorts.length<=1000000) (hl2:g.funs.length<=1000000) (hl3:g.macros.length<=1000000) (hM:∀ m ∈ g.macros,m.body.full<=3000000) {Av:Option Addr} {vars:List Param} (cv:Nat) (hv:Lies 2 ParamR w Av vars) (hvl:vars.length<=1000000) {A:Option Addr} {c:Nat} {x:Sexp} (hx:XAt w A c x) (hfx:x.full<=3000000) :
  Calls Tryz.prog 18 #[.agg #[.slice A1 g.sorts.length c1,.slice A2 g.funs.length c2,.slice A3 g.macros.length c3],.slice Av vars.length cv,.agg #[.int .i8 x.kind,.string x.text,.slice A x.l.length c]] w fun e w'=>e=.returned (.tuple #[.int .i64 (sortO g (envOf vars) x).1,.int .i64 (sortO g (envOf vars) x).2])/\Below w.heap.size w w':=by
 have HO:=kp (show sortO g (envOf vars) x=if checkE g≠0\/x.may=false then(0,2) else if(sortP g (envOf vars) x).2.e=0 then((sortP g (envOf vars) x).1.1,0) else(0,(sortP g (envOf vars) x).2.e) from rfl);have HSg:=kp h;have HX:=kp hx;have HV:=kp hv;have HMf:=kp hM;have HFx:=kp hfx;have B2:=kp ((((brq w).alloc nlq (.cells #[.slice A1 g.sorts.length c1,.slice A2 g.funs.length c2,.slice A3 g.macros.length c3] 26)).alloc (by simp) (.cells #[.int .i8 x.kind,.string x.text,.slice A x.l.length c] 30)));have S2:=kp (Bk.keep (Bk.new w (.cells #[.slice A1 g.sorts.length c1,.slice A2 g.funs.length c2,.slice A3 g.macros.length c3] 26)) (.cells #[.int .i8 x.kind,.string x.text,.slice A x.l.length c] 30));have X2:=kp (show((w.alloc (.cells #[.slice A1 g.sorts.length c1,.slice A2 g.funs.length c2,.slice A3 g.macros.length c3] 26)).alloc (.cells #[.int .i8 x.kind,.string x.text,.slice A x.l.length c] 30)).heap[w.heap.size+1]?=some (.cells #[.int .i8 x.kind,.string x.text,.slice A x.l.length c] 30 (0,0)) by have h:=Bk.new (w.alloc (.cells #[.slice A1 g.sorts.length c1,.slice A2 g.funs.length c2,.slice A3 g.macros.length c3] 26)) (.cells #[.int .i8 x.kind,.string x.text,.slice A x.l.length c] 30);simpa using h);have HChk:=kp (fun W (hW:Below w.heap.size w W)=>check_any (h.on hW) (by omega) (by omega) (by omega));have HMay:=kp (fun W (hW:Below w.heap.size w W)=>sxmay_any (hx.on hW));clear h hx hv hM hfx;generalize hso:sortO g (envOf vars) x=so at *
 clear hso
 go_enter Tryz.func18,Tryz.ntmps18
 go_upto_region 1 with fail
 generalize (w.alloc (.cells #[.slice A1 g.sorts.length c1,.slice A2 g.funs.length c2,.slice A3 g.macros.length c3] 26)).alloc (.cells #[.int .i8 x.kind,.string x.text,.slice A x.l.length c] 30)=w2 at *;obtain ⟨s0,s1,s2,sf⟩:=Bk.c3 S2.out;have HC:=kp (HChk.out w2 B2.out)
 by_cases hck:checkE g=0
 ·have HCk:=kp hck;rw [hck] at HC;clear hck;go_wp2_with fail
  refine HC.out.mono ?_;rintro e w3 ⟨rfl,hb3⟩;have B3:=kp (B2.out.trans (hb3.mono B2.out.size));have S3:=kp (Bk.on S2.out hb3);have X3:=kp (Bk.on X2.out hb3);clear hb3 s0 s1 s2 sf;obtain ⟨q0,q1,q2,qf⟩:=Bk.c3 X3.out;have HY:=kp (HMay.out w3 B3.out)
  cases hmy:x.may with
  | false =>
   rw [hmy] at HY;replace HO:=kp (show so=(0,2) by rw [HO.out,if_pos (.inr hmy)]);go_wp2_with fail
   refine HY.out.mono ?_;rintro e w4 ⟨rfl,hb4⟩;have B4:=kp (B3.out.trans (hb4.mono B3.out.size));clear hb4;go_wp2_with fail
   go_ret2;exact⟨by rw [HO.out];rfl,B4.out⟩
  | true =>
   rw [hmy] at HY;replace HO:=kp (show so=if(sortP g (envOf vars) x).2.e=0 then((sortP g (envOf vars) x).1.1,0) else(0,(sortP g (envOf vars) x).2.e) by rw [HO.out,if_neg (fun h=>by rcases h with h | h;exact h HCk.out;rw [h] at hmy;cases hmy)]);clear hmy;have hmm:=@run_makeMap Tryz.prog;go_wp2_with fail
   refine HY.out.mono ?_;rintro e w4 ⟨rfl,hb4⟩;have B4:=kp (B3.out.trans (hb4.mono B3.out.size));have S4:=kp (Bk.on S3.out hb4);have X4:=kp (Bk.on X3.out hb4);clear hb4 q0 q1 q2 qf S2 S3 X2 X3 B2 B3;have M5:=kp (KeyMap.below (KeyMap.made (kt:=9) (key:=strKV) w4) ((Below.refl _ _).alloc nlq (.cells #[.pointer none,.map (some w4.heap.size)] 76)));have B5:=kp ((B4.out.alloc B4.out.size (.map #[] 0)).alloc (B4.out.alloc B4.out.size (.map #[] 0)).size (.cells #[.pointer none,.map (some w4.heap.size)] 76));have C5:=kp (show((w4.alloc (.map #[] 0)).alloc (.cells #[.pointer none,.map (some w4.heap.size)] 76)).heap[w4.heap.size+1]?=some (.cells #[.pointer none,.map (some w4.heap.size)] 76 (0,0)) by have h:=Bk.new (w4.alloc (.map #[] 0)) (.cells #[.pointer none,.map (some w4.heap.size)] 76);simpa using h);have S5:=kp (Bk.keep (Bk.keep S4.out (.map #[] 0)) (.cells #[.pointer none,.map (some w4.heap.size)] 76));have X5:=kp (Bk.keep (Bk.keep X4.out (.map #[] 0)) (.cells #[.pointer none,.map (some w4.heap.size)] 76));have hms:=lt_of_block S4.out;have hmx:=lt_of_block X4.out;go_upto_region 4 with fail
   generalize (w4.alloc (.map #[] 0)).alloc (.cells #[.pointer none,.map (some w4.heap.size)] 76)=w5 at *;generalize w4.heap.size=mpb at *;clear hmm;go_wp2_with fail
   go_loopw [26] (fun i' wr=>∃ k:Nat,k<=vars.length/\i'=.int .i64 k/\Below w.heap.size w wr/\wr.heap[mpb+1]?=some (.cells #[.pointer none,.map (some mpb)] 76 (0,0))/\wr.heap[w.heap.size]?=some (.cells #[.slice A1 g.sorts.length c1,.slice A2 g.funs.length c2,.slice A3 g.macros.length c3] 26 (0,0))/\wr.heap[w.heap.size+1]?=some (.cells #[.int .i8 x.kind,.string x.text,.slice A x.l.length c] 30 (0,0))/\KeyMap 9 strKV wr mpb k (fun s=>(findE ((vars.take k).map pairV).reverse s).map valV)) (fun i' _=>vars.length - (intOf i').toNat)
   case atStart=>exact⟨0,Nat.zero_le _,rfl,B5.out,C5.out,S5.out,X5.out,KeyMap.congr M5.out (fun s=>by simp [findE])⟩
   case round =>
    obtain ⟨k,hk,rfl,hb,hc,hs,hx,hkm⟩:=hrel;have BR:=kp hb;have CR:=kp hc;have SR:=kp hs;have XR:=kp hx;have KM:=kp hkm;clear hb hc hs hx hkm
    by_cases hkl:k < vars.length
    ·have hlt2:(k:Int) < (vars.length:Int):=by omega
     obtain ⟨q,hq⟩:∃ q,vars[k]?=some q:=⟨_,gqe hkl⟩;obtain ⟨pb,po,rfl,hqn,hqc⟩:=par_get HV.out hq;obtain ⟨p0,p1⟩:=hqc wr BR.out;have HTk:=kp (show((vars.take (k+1)).map pairV).reverse=pairV q :: ((vars.take k).map pairV).reverse by rw [List.take_add_one,hq];simp);have CA:=kp (Bk.keep CR.out (.cells #[.string q.name,.int .i64 q.sort] 59));have SA:=kp (Bk.keep SR.out (.cells #[.string q.name,.int .i64 q.sort] 59));have XA:=kp (Bk.keep XR.out (.cells #[.string q.name,.int .i64 q.sort] 59));have QA:=kp (Bk.new wr (.cells #[.string q.name,.int .i64 q.sort] 59));have BA:=kp (BR.out.alloc BR.out.size (.cells #[.string q.name,.int .i64 q.sort] 59));have KA:=kp (KeyMap.below KM.out ((brq wr).alloc nlq (.cells #[.string q.name,.int .i64 q.sort] 59)));have hqm:wr.heap.size≠mpb:=Nat.ne_of_gt KM.out.lt;clear hq hqc;go_upto_region 7 with fail
     generalize wr.alloc (.cells #[.string q.name,.int .i64 q.sort] 59)=wa at *;generalize wr.heap.size=qb at *;clear p0 p1;have B0:=kp (brq wa).drew;have CD:=kp (Bk.on CA.out B0.out);have SD:=kp (Bk.on SA.out B0.out);have XD:=kp (Bk.on XA.out B0.out);have QD:=kp (Bk.on QA.out B0.out);have BD:=kp (BA.out.trans (B0.out.mono BA.out.size));have KD:=kp (KeyMap.below KA.out B0.out);generalize hwd:wa.drew=wd at *;obtain ⟨v8,u8,m8,g8⟩:=KeyMap.store (a:=q.name) (t:=74) (e:=69) KD.out string_key str_inj Tryz.underlying74 (by unfold maxLen;omega) (keyOf_str hqn) (valV (q.sort,0));unfold valV at u8;replace u8:(Instr.mapUpdate 74 (.map (some mpb)) (.string q.name) (.agg #[.int .i64 q.sort,.int .i64 0])).run Tryz.prog wd=.ok () v8:=u8;have K8:=kp (show Keeps (fun k=>k=mpb) wd v8 from(Keeps.refl _ wd).grown g8 (fun j hj=>.inl (Option.some.inj hj).symm));have HC6:=kp (fun W (hW:Keeps (fun k=>k=mpb) wd W)=>(hW.block (mpb+1) (lt_of_block CD.out) (by omega)).trans CD.out);have HQ6:=kp (fun W (hW:Keeps (fun k=>k=mpb) wd W)=>(hW.block qb (lt_of_block QD.out) hqm).trans QD.out);refine wp_region_held_drew (S:=fun W=>Keeps (fun k=>k=mpb) wd W) (by kernel_rfl) ((by rw [hwd];exact Keeps.refl _ _)) (fun hHeld=>?_);refine plz [0,1,2,3,4,5,6,7,8] ?_;iterate 9 (refine tnz (v:=?_) ?_ ?_;rotate_left;(focus first | ((intro w hSw;go_simp;try with_reducible rfl);done) | ((intro w hSw;(obtain ⟨n0,n1,nf⟩:=Bk.c2 (HC6.out _ hSw);go_simp;try with_reducible rfl));done) | ((intro w hSw;(obtain ⟨n0,n1,nf⟩:=Bk.c2 (HQ6.out _ hSw);go_simp;try with_reducible rfl));done));try simp only [pt])
     refine pzz ?_;rw [hwd];refine rd 9 fun K hK=>?_;go_simp;refine hK.out _ _ (K8.out) (fun hHeld=>?_);clear hK K;try simp only [pt]
     refine dnz ?_;have B8:=kp (BD.out.trans (K8.out.below (B:=w.heap.size) (fun k e=>by omega) BD.out.size));have C8:=kp (HC6.out _ K8.out);have S8:=kp ((K8.out.block w.heap.size (lt_of_block SD.out) (by omega)).trans SD.out);have X8:=kp ((K8.out.block (w.heap.size+1) (lt_of_block XD.out) (by omega)).trans XD.out);have M8:=kp (KeyMap.congr (H:=fun s=>(findE ((vars.take (k+1)).map pairV).reverse s).map valV) m8 (fun s=>by rw [HTk.out];exact(findE_cons _ _ _ _).symm));clear m8 g8;go_wp2_with fail
     go_roundw
     case rel=>exact⟨k+1,by omega,by go_num,B8.out,C8.out,S8.out,X8.out,M8.out⟩
     case measure=>simp [intOf];omega
    ·obtain rfl:k=vars.length:=by omega
     have KZ:=kp (KeyMap.congr (H:=fun s=>(findE (envOf vars) s).map valV) KM.out (fun s=>by rw [List.take_length];rfl));have hms2:=KZ.out.lt;have hmz:=lt_of_block CR.out;have C6:=kp (Bk.keep CR.out (.cells #[.slice A1 g.sorts.length c1,.slice A2 g.funs.length c2,.slice A3 g.macros.length c3,.slice none 0 0,.int .i64 0,.bool false,.int .i64 (g.macros.length:Int),.int .i64 0,.int .i64 0] 67));have X6:=kp (Bk.keep XR.out (.cells #[.slice A1 g.sorts.length c1,.slice A2 g.funs.length c2,.slice A3 g.macros.length c3,.slice none 0 0,.int .i64 0,.bool false,.int .i64 (g.macros.length:Int),.int .i64 0,.int .i64 0] 67));have B6:=kp (BR.out.alloc BR.out.size (.cells #[.slice A1 g.sorts.length c1,.slice A2 g.funs.length c2,.slice A3 g.macros.length c3,.slice none 0 0,.int .i64 0,.bool false,.int .i64 (g.macros.length:Int),.int .i64 0,.int .i64 0] 67));obtain ⟨F,hFe⟩:∃ F:Fix,F=⟨w,wr.heap.size,A1,c1,A2,c2,A3,c3,⟨g,0,false⟩⟩:=⟨_,rfl⟩
     have hFk:FixOk F:=by
      subst hFe;exact⟨HSg.out,HCk.out,BR.out.size,by show(0:Int)<=1000000;omega,v0_VI.1⟩
     have hFm:F.mb=wr.heap.size:=by rw [hFe]
     have HC:=kp (show Calls Tryz.prog 29 #[.pointer (some ⟨wr.heap.size,0,none⟩),.agg #[.int .i8 x.kind,.string x.text,.slice A x.l.length c],.pointer (some ⟨mpb+1,0,none⟩)] (wr.alloc (.cells #[.slice A1 g.sorts.length c1,.slice A2 g.funs.length c2,.slice A3 g.macros.length c3,.slice none 0 0,.int .i64 0,.bool false,.int .i64 (g.macros.length:Int),.int .i64 0,.int .i64 0] 67)) (MkPost F (g.macros.length:Nat) (wr.alloc (.cells #[.slice A1 g.sorts.length c1,.slice A2 g.funs.length c2,.slice A3 g.macros.length c3,.slice none 0 0,.int .i64 0,.bool false,.int .i64 (g.macros.length:Int),.int .i64 0,.int .i64 0] 67)) [] none (sortP g (envOf vars) x).1 (sortP g (envOf vars) x).2) by
      subst hFe;have hm:=Mk.made (F:=⟨w,wr.heap.size,A1,c1,A2,c2,A3,c3,⟨g,0,false⟩⟩) (W:=wr) (known:=(g.macros.length:Int)) (t:=[]) (At:=none) (ct:=0) rfl BR.out (.inl rfl) nlq (by unfold maxLen;omega) (by simp)
      have hen:=(EnvS.nil ⟨w,wr.heap.size,A1,c1,A2,c2,A3,c3,⟨g,0,false⟩⟩ (wr.alloc (.cells #[.slice A1 g.sorts.length c1,.slice A2 g.funs.length c2,.slice A3 g.macros.length c3,.slice none 0 0,.int .i64 0,.bool false,.int .i64 (g.macros.length:Int),.int .i64 0,.int .i64 0] 67))).cons C6.out (KeyMap.below KZ.out ((brq wr).alloc nlq _)) (fun q hq=>by
       rw [envOf_eq,List.mem_reverse,List.mem_map] at hq;obtain ⟨u,hu,rfl⟩:=hq;exact⟨par_sort HV.out hu,v0_VI.1⟩) (by show mpb+1≠wr.heap.size;omega) (by show mpb≠wr.heap.size;omega)
      rw [List.append_nil] at hen;exact term_any hFk HMf.out _ g.macros.length x (Nat.lt_succ_self _) HFx.out hm HX.out hen)
     generalize sortP g (envOf vars) x=pr at *;obtain ⟨pv,ps⟩:=pr;clear hFe C6 CR KZ KM HV HMf;obtain ⟨s0,s1,s2,sf⟩:=Bk.c3 SR.out;go_upto_region 10 with fail
     generalize wr.alloc (.cells #[.slice A1 g.sorts.length c1,.slice A2 g.funs.length c2,.slice A3 g.macros.length c3,.slice none 0 0,.int .i64 0,.bool false,.int .i64 (g.macros.length:Int),.int .i64 0,.int .i64 0] 67)=w6 at *;generalize wr.heap.size=mb at *;clear s0 s1 s2 sf;obtain ⟨q0,q1,q2,qf⟩:=Bk.c3 X6.out;go_wp2_with fail
     refine HC.out.mono ?_;rintro e w7 ⟨rfl,hv,hk7,A7,c7,hm7,ht7⟩;have B7:=kp (show Below w.heap.size w w7 from B6.out.trans (hk7.below (fun k hk=>by unfold onMb at hk;have:=BR.out.size;omega) B6.out.size));have hb7:=hm7.blk;rw [hFm] at hb7;have MB8:=kp (Bk.keep hb7 (.cells #[.int .i64 pv.1,.int .i64 pv.2] 69));have V8:=kp (Bk.new w7 (.cells #[.int .i64 pv.1,.int .i64 pv.2] 69));have B8:=kp (B7.out.alloc B7.out.size (.cells #[.int .i64 pv.1,.int .i64 pv.2] 69));unfold valV;clear hv hk7 hm7 ht7 hb7 q0 q1 q2 qf;go_upto_region 11 with fail
     generalize w7.alloc (.cells #[.int .i64 pv.1,.int .i64 pv.2] 69)=w8 at *;generalize w7.heap.size=vb at *;obtain ⟨m0,m1,m2,m3,m4,m5,m6,m7,m8,mf⟩:=Bk.c9 MB8.out;obtain ⟨y0,y1,yf⟩:=Bk.c2 V8.out
     by_cases he:ps.e=0
     ·have he1:(ps.e == 0)=true:=by simp [he]
      replace HO:=kp (show so=(pv.1,0) by rw [HO.out,if_pos he]);clear he;go_wp2_with fail
      go_ret2;exact⟨by rw [HO.out];rfl,B8.out⟩
     ·have he1:(ps.e == 0)=false:=by simp [he]
      replace HO:=kp (show so=(0,ps.e) by rw [HO.out,if_neg he]);clear he;go_upto_region 13 with fail
      have B0:=kp (brq w8).drew;refine wp_region_held_drew (S:=fun W=>Below w8.heap.size w8 W) (by kernel_rfl) (B0.out) (fun hHeld=>?_);refine plz [0,1,2,3,4,5] ?_;iterate 6 (refine tnz (v:=?_) ?_ ?_;rotate_left;(focus first | ((intro w hSw;go_simp;try with_reducible rfl);done) | ((intro w hSw;(obtain ⟨m0,m1,m2,m3,m4,m5,m6,m7,m8,mf⟩:=Bk.c9 (Bk.on MB8.out hSw);go_simp;try with_reducible rfl));done));try simp only [pt])
      refine pzz ?_;refine dnz ?_;go_wp2_with fail
      go_ret2;exact⟨by rw [HO.out];rfl,B8.out.trans (B0.out.mono B8.out.size)⟩
 ·have hck':(checkE g != 0)=true:=by rw [bne_iff_ne];exact hck
  replace HO:=kp (show so=(0,2) by rw [HO.out,if_pos (.inl hck)]);clear hck;go_wp2_with fail
  refine HC.out.mono ?_;rintro e w3 ⟨rfl,hb3⟩;have B3:=kp (B2.out.trans (hb3.mono B2.out.size));clear hb3;go_wp2_with fail
  go_ret2;exact⟨by rw [HO.out];rfl,B3.out⟩
theorem fits_any {w:World} {A1 A2 A3:Option Addr} {c1 c2 c3:Nat} {g:Sig} (h:SigAt w A1 c1 A2 c2 A3 c3 g) (hl1:g.sorts.length<=1000000) (hl2:g.funs.length<=1000000) (hl3:g.macros.length<=1000000) (hM:∀ m ∈ g.macros,m.body.full<=3000000)
  {m:Macro} {Ap Ab:Option Addr} {cp cb:Nat} (hp:Lies 2 ParamR w Ap m.params) (hpl:m.params.length<=1000000) (hb:XAt w Ab cb m.body) (hf:m.body.full<=3000000) :
  Calls Tryz.prog 16 #[.agg #[.slice A1 g.sorts.length c1,.slice A2 g.funs.length c2,.slice A3 g.macros.length c3],.agg #[.string m.name,.slice Ap m.params.length cp,.int .i64 m.res,.int .i8 m.body.kind,.string m.body.text,.slice Ab m.body.l.length cb]] w fun e w'=>e=.returned (.int .i64 (fitsO g m))/\Below w.heap.size w w':=by
 have HF:=kp (show fitsO g m=if(sortO g (envOf m.params) m.body).2=0/\(sortO g (envOf m.params) m.body).1≠m.res then 33 else(sortO g (envOf m.params) m.body).2 from rfl);have HS:=kp (fun W (hW:Below w.heap.size w W)=>sort_any (h.on hW) hl1 hl2 hl3 hM cp (hp.on ParamR.lasts hW) hpl (hb.on hW) hf);have B2:=kp (((brq w).alloc nlq (.cells #[.slice A1 g.sorts.length c1,.slice A2 g.funs.length c2,.slice A3 g.macros.length c3] 26)).alloc (by simp) (.cells #[.string m.name,.slice Ap m.params.length cp,.int .i64 m.res,.int .i8 m.body.kind,.string m.body.text,.slice Ab m.body.l.length cb] 47));have S2:=kp (Bk.keep (Bk.new w (.cells #[.slice A1 g.sorts.length c1,.slice A2 g.funs.length c2,.slice A3 g.macros.length c3] 26)) (.cells #[.string m.name,.slice Ap m.params.length cp,.int .i64 m.res,.int .i8 m.body.kind,.string m.body.text,.slice Ab m.body.l.length cb] 47))
 have M2:=kp (show((w.alloc (.cells #[.slice A1 g.sorts.length c1,.slice A2 g.funs.length c2,.slice A3 g.macros.length c3] 26)).alloc (.cells #[.string m.name,.slice Ap m.params.length cp,.int .i64 m.res,.int .i8 m.body.kind,.string m.body.text,.slice Ab m.body.l.length cb] 47)).heap[w.heap.size+1]?=some (.cells #[.string m.name,.slice Ap m.params.length cp,.int .i64 m.res,.int .i8 m.body.kind,.string m.body.text,.slice Ab m.body.l.length cb] 47 (0,0)) by
  have h:=Bk.new (w.alloc (.cells #[.slice A1 g.sorts.length c1,.slice A2 g.funs.length c2,.slice A3 g.macros.length c3] 26)) (.cells #[.string m.name,.slice Ap m.params.length cp,.int .i64 m.res,.int .i8 m.body.kind,.string m.body.text,.slice Ab m.body.l.length cb] 47)
  simpa using h)
 clear h hp hb hM;generalize fitsO g m=fo at *;generalize sortO g (envOf m.params) m.body=so at *;obtain ⟨s,e0⟩:=so
 go_enter Tryz.func16,Tryz.ntmps16
 go_upto_region 1 with fail
 generalize (w.alloc (.cells #[.slice A1 g.sorts.length c1,.slice A2 g.funs.length c2,.slice A3 g.macros.length c3] 26)).alloc (.cells #[.string m.name,.slice Ap m.params.length cp,.int .i64 m.res,.int .i8 m.body.kind,.string m.body.text,.slice Ab m.body.l.length cb] 47)=w2 at *;obtain ⟨s0,s1,s2,sf⟩:=Bk.c3 S2.out;obtain ⟨m0,m1,m2,m3,m4,m5,mf⟩:=Bk.c6 M2.out;go_wp2_with fail
 refine(HS.out w2 B2.out).mono ?_;rintro e w3 ⟨rfl,hb3⟩;have B3:=kp (B2.out.trans (hb3.mono B2.out.size));have M3:=kp (Bk.on M2.out hb3);clear hb3 s0 s1 s2 sf m0 m1 m2 m3 m4 m5 mf;obtain ⟨m0,m1,m2,m3,m4,m5,mf⟩:=Bk.c6 M3.out
 by_cases he:e0=0
 ·have he':(e0 == 0)=true:=by simp [he]
  by_cases hr:s=m.res
  ·have hr':(s != m.res)=false:=by simp [hr]
   have HE:=kp (HF.out.trans (if_neg (fun h=>h.2 hr)));clear he hr;go_wp2_with fail
   go_ret;exact⟨ret_int HE.out.symm,B3.out⟩
  ·have hr':(s != m.res)=true:=by simp [hr]
   have HE:=kp (HF.out.trans (if_pos ⟨he,hr⟩));clear he hr;go_wp2_with fail
   go_ret;exact⟨ret_int HE.out.symm,B3.out⟩
 ·have he':(e0 == 0)=false:=by simp [he]
  have HE:=kp (HF.out.trans (if_neg (fun h=>he h.1)));clear he;go_wp2_with fail
  go_ret;exact⟨ret_int HE.out.symm,B3.out⟩
def MakesPost (w:World) (o:List Node × Int × Int) (e:Ending) (w':World):Prop :=
 ∃ A' c',e=.returned (.tuple #[.agg #[.slice A' o.1.length c'],.int .i64 o.2.1,.int .i64 o.2.2])/\Lies 8 NodeR w' A' o.1/\o.1.length<=c'/\c'<=maxLen/\o.1.length<=1000000/\I64 o.2.1/\Below w.heap.size w w'
theorem makes_ret {f:Func} {w0 w:World} {b:Nat} {A':Option Addr} {c':Nat} {o:List Node × Int × Int} {act:Act} (hf:f.results=#[.cell 8 38,.tmp 9,.tmp 10]) (hb:w.heap[b]?=some (.cells #[.slice A' o.1.length c'] 38 (0,0))) (h2:act.tmps[8]?=some (.pointer (some ⟨b,0,none⟩))) (h3:act.tmps[9]?=some (.int .i64 o.2.1)) (h4:act.tmps[10]?=some (.int .i64 o.2.2)) (hd:act.defers=[])
  (hl:Lies 8 NodeR w A' o.1) (hle:o.1.length<=c') (hlm:c'<=maxLen) (hlen:o.1.length<=1000000) (hi:I64 o.2.1) (hB:Below w0.heap.size w0 w):bodyPost Tryz.prog f (MakesPost w0 o) .ret act w:=by
 obtain ⟨y0,_⟩:=Bk.c1 hb;refine bodyPost_ret (v:=.tuple #[.agg #[.slice A' o.1.length c'],.int .i64 o.2.1,.int .i64 o.2.2]) ?_ hd ⟨A',c',rfl,hl,hle,hlm,hlen,hi,hB⟩;simp [results,hf,go_sem,y0,h2,h3,h4]
theorem lies_other {w:World} {At:Option Addr} {t:List Node} {k j:Nat} {u:Value} (h:Lies 8 NodeR w At t) (hf:Far k t At):Lies 8 NodeR (w.setCell ⟨k,j,none⟩ u) At t :=
 lies_block h (by simp [World.setCell]) (fun hn b o e=>Below.heap_setCell w ⟨k,j,none⟩ u b (hf hn b o e))
theorem makes_any {w:World} {A1 A2 A3:Option Addr} {c1 c2 c3:Nat} {g:Sig} (h:SigAt w A1 c1 A2 c2 A3 c3 g) (hl1:g.sorts.length<=1000000) (hl2:g.funs.length<=1000000) (hl3:g.macros.length<=1000000) (hM:∀ m ∈ g.macros,m.body.full<=3000000) {At:Option Addr} {t:List Node} {ct:Nat} (ht:Lies 8 NodeR w At t) (htl:t.length<=1000000) (htc:t.length<=ct) (htm:ct<=maxLen) {A:Option Addr} {c:Nat} {x:Sexp} (hx:XAt w A c x) (hfx:x.full<=3000000) (most:Int) (hmo:I64 most) (hm6:most<=1000000) :
  Calls Tryz.prog 13 #[.agg #[.slice A1 g.sorts.length c1,.slice A2 g.funs.length c2,.slice A3 g.macros.length c3],.agg #[.slice At t.length ct],.agg #[.int .i8 x.kind,.string x.text,.slice A x.l.length c],.int .i64 most] w (MakesPost w (termO g t x most)):=by
 have HO:=kp (show termO g t x most=if tableE g t≠0 then([],0,2)
  else if(sortO g [] x).2≠0 then([],0,(sortO g [] x).2)
  else if(makeP g most x t).2.e≠0 then([],0,(makeP g most x t).2.e)
  else((makeP g most x t).2.t,(makeP g most x t).1.2,0) from rfl)
 have HSg:=kp h;have HX:=kp hx;have HT:=kp ht;have HMf:=kp hM;have HFx:=kp hfx;have B3:=kp (((((brq w).alloc nlq (.cells #[.slice A1 g.sorts.length c1,.slice A2 g.funs.length c2,.slice A3 g.macros.length c3] 26)).alloc (by simp) (.cells #[.slice At t.length ct] 38)).alloc (by simp;omega) (.cells #[.int .i8 x.kind,.string x.text,.slice A x.l.length c] 30)).alloc (by simp;omega) (.cells #[.slice none 0 0] 38));have S3:=kp (Bk.keep (Bk.keep (Bk.keep (Bk.new w (.cells #[.slice A1 g.sorts.length c1,.slice A2 g.funs.length c2,.slice A3 g.macros.length c3] 26)) (.cells #[.slice At t.length ct] 38)) (.cells #[.int .i8 x.kind,.string x.text,.slice A x.l.length c] 30)) (.cells #[.slice none 0 0] 38));have T3:=kp (Bk.keep (Bk.keep (show((w.alloc (.cells #[.slice A1 g.sorts.length c1,.slice A2 g.funs.length c2,.slice A3 g.macros.length c3] 26)).alloc (.cells #[.slice At t.length ct] 38)).heap[w.heap.size+1]?=some (.cells #[.slice At t.length ct] 38 (0,0)) by have h:=Bk.new (w.alloc (.cells #[.slice A1 g.sorts.length c1,.slice A2 g.funs.length c2,.slice A3 g.macros.length c3] 26)) (.cells #[.slice At t.length ct] 38);simpa using h) (.cells #[.int .i8 x.kind,.string x.text,.slice A x.l.length c] 30)) (.cells #[.slice none 0 0] 38));have X3:=kp (Bk.keep (show(((w.alloc (.cells #[.slice A1 g.sorts.length c1,.slice A2 g.funs.length c2,.slice A3 g.macros.length c3] 26)).alloc (.cells #[.slice At t.length ct] 38)).alloc (.cells #[.int .i8 x.kind,.string x.text,.slice A x.l.length c] 30)).heap[w.heap.size+2]?=some (.cells #[.int .i8 x.kind,.string x.text,.slice A x.l.length c] 30 (0,0)) by have h:=Bk.new ((w.alloc (.cells #[.slice A1 g.sorts.length c1,.slice A2 g.funs.length c2,.slice A3 g.macros.length c3] 26)).alloc (.cells #[.slice At t.length ct] 38)) (.cells #[.int .i8 x.kind,.string x.text,.slice A x.l.length c] 30);simpa using h) (.cells #[.slice none 0 0] 38))
 have R3:=kp (show((((w.alloc (.cells #[.slice A1 g.sorts.length c1,.slice A2 g.funs.length c2,.slice A3 g.macros.length c3] 26)).alloc (.cells #[.slice At t.length ct] 38)).alloc (.cells #[.int .i8 x.kind,.string x.text,.slice A x.l.length c] 30)).alloc (.cells #[.slice none 0 0] 38)).heap[w.heap.size+3]?=some (.cells #[.slice none 0 0] 38 (0,0)) by have h:=Bk.new (((w.alloc (.cells #[.slice A1 g.sorts.length c1,.slice A2 g.funs.length c2,.slice A3 g.macros.length c3] 26)).alloc (.cells #[.slice At t.length ct] 38)).alloc (.cells #[.int .i8 x.kind,.string x.text,.slice A x.l.length c] 30)) (.cells #[.slice none 0 0] 38);simpa using h);have HTb:=kp (fun W (hW:Below w.heap.size w W)=>tytable_any (h.on hW) hl1 hl2 hl3 (ht.on NodeR.lasts hW) htl htc htm);have HSo:=kp (fun W (hW:Below w.heap.size w W)=>sort_any (h.on hW) hl1 hl2 hl3 hM (Av:=none) (vars:=[]) 0 (.inl rfl) (by simp) (hx.on hW) hfx);have HE0:=kp (show envOf []=[] from rfl);rw [HE0.out] at HSo;clear h hx ht hM hfx;generalize hto:termO g t x most=ans at *;clear hto
 go_enter Tryz.func13,Tryz.ntmps13
 go_upto_region 1 with fail
 generalize (((w.alloc (.cells #[.slice A1 g.sorts.length c1,.slice A2 g.funs.length c2,.slice A3 g.macros.length c3] 26)).alloc (.cells #[.slice At t.length ct] 38)).alloc (.cells #[.int .i8 x.kind,.string x.text,.slice A x.l.length c] 30)).alloc (.cells #[.slice none 0 0] 38)=w3 at *;obtain ⟨s0,s1,s2,sf⟩:=Bk.c3 S3.out;obtain ⟨t0,tf⟩:=Bk.c1 T3.out;have HC:=kp (HTb.out w3 B3.out)
 by_cases hck:tableE g t=0
 ·have HCk:=kp hck;rw [hck] at HC;replace HO:=kp (HO.out.trans (if_neg (fun h=>h hck)));clear hck;go_wp2_with fail
  refine HC.out.mono ?_;rintro e w4 ⟨rfl,hb4⟩;have B4:=kp (B3.out.trans (hb4.mono B3.out.size));have S4:=kp (Bk.on S3.out hb4);have T4:=kp (Bk.on T3.out hb4);have X4:=kp (Bk.on X3.out hb4);have R4:=kp (Bk.on R3.out hb4);clear hb4 s0 s1 s2 sf t0 tf S3 T3 X3 R3 B3;obtain ⟨s0,s1,s2,sf⟩:=Bk.c3 S4.out;obtain ⟨q0,q1,q2,qf⟩:=Bk.c3 X4.out;have HS:=kp (HSo.out w4 B4.out);generalize sortO g [] x=so at *;obtain ⟨sv,se⟩:=so
  by_cases hse:se=0
  ·subst hse;replace HO:=kp (show ans=if(makeP g most x t).2.e≠0 then([],0,(makeP g most x t).2.e) else((makeP g most x t).2.t,(makeP g most x t).1.2,0) by rw [HO.out,if_neg (by simp)]);go_wp2_with fail
   refine HS.out.mono ?_;rintro e w5 ⟨rfl,hb5⟩;have B5:=kp (B4.out.trans (hb5.mono B4.out.size));have S5:=kp (Bk.on S4.out hb5);have T5:=kp (Bk.on T4.out hb5);have X5:=kp (Bk.on X4.out hb5);have R5:=kp (Bk.on R4.out hb5);clear hb5 s0 s1 s2 sf q0 q1 q2 qf S4 T4 X4 R4 B4;obtain ⟨s0,s1,s2,sf⟩:=Bk.c3 S5.out;obtain ⟨t0,tf⟩:=Bk.c1 T5.out;have hrb:=lt_of_block R5.out;have X6:=kp (Bk.keep X5.out (.cells #[.slice A1 g.sorts.length c1,.slice A2 g.funs.length c2,.slice A3 g.macros.length c3,.slice At t.length ct,.int .i64 most,.bool true,.int .i64 (g.macros.length:Int),.int .i64 0,.int .i64 0] 67));have R6:=kp (Bk.keep R5.out (.cells #[.slice A1 g.sorts.length c1,.slice A2 g.funs.length c2,.slice A3 g.macros.length c3,.slice At t.length ct,.int .i64 most,.bool true,.int .i64 (g.macros.length:Int),.int .i64 0,.int .i64 0] 67));have B6:=kp (B5.out.alloc B5.out.size (.cells #[.slice A1 g.sorts.length c1,.slice A2 g.funs.length c2,.slice A3 g.macros.length c3,.slice At t.length ct,.int .i64 most,.bool true,.int .i64 (g.macros.length:Int),.int .i64 0,.int .i64 0] 67));obtain ⟨F,hFe⟩:∃ F:Fix,F=⟨w,w5.heap.size,A1,c1,A2,c2,A3,c3,⟨g,most,true⟩⟩:=⟨_,rfl⟩
   have hcg:checkE g=0:=Decidable.byContradiction fun h=>by
    have hh:tableE g t=2:=by unfold tableE;rw [if_pos (.inl h)]
    rw [HCk.out] at hh
    cases hh
   have hFk:FixOk F:=by
    subst hFe;exact⟨HSg.out,hcg,B5.out.size,hm6,hmo⟩
   have hFm:F.mb=w5.heap.size:=by rw [hFe]
   have HCl:=kp (show Calls Tryz.prog 29 #[.pointer (some ⟨w5.heap.size,0,none⟩),.agg #[.int .i8 x.kind,.string x.text,.slice A x.l.length c],.pointer none] (w5.alloc (.cells #[.slice A1 g.sorts.length c1,.slice A2 g.funs.length c2,.slice A3 g.macros.length c3,.slice At t.length ct,.int .i64 most,.bool true,.int .i64 (g.macros.length:Int),.int .i64 0,.int .i64 0] 67)) (MkPost F (g.macros.length:Nat) (w5.alloc (.cells #[.slice A1 g.sorts.length c1,.slice A2 g.funs.length c2,.slice A3 g.macros.length c3,.slice At t.length ct,.int .i64 most,.bool true,.int .i64 (g.macros.length:Int),.int .i64 0,.int .i64 0] 67)) t At (makeP g most x t).1 (makeP g most x t).2) by
    subst hFe;have hm:=Mk.made (F:=⟨w,w5.heap.size,A1,c1,A2,c2,A3,c3,⟨g,most,true⟩⟩) (W:=w5) (known:=(g.macros.length:Int)) (t:=t) (At:=At) (ct:=ct) rfl B5.out (HT.out.on NodeR.lasts B5.out) htc htm htl;exact term_any hFk HMf.out _ g.macros.length x (Nat.lt_succ_self _) HFx.out hm HX.out (EnvS.nil _ _))
   have HFa:=kp (show Far (w.heap.size+3) t At from fun hn b o e=>by have:=lies_lt HT.out hn b o e;omega);generalize makeP g most x t=pr at *;obtain ⟨pv,ps⟩:=pr;clear hFe hcg;go_upto_region 7 with fail
   generalize w5.alloc (.cells #[.slice A1 g.sorts.length c1,.slice A2 g.funs.length c2,.slice A3 g.macros.length c3,.slice At t.length ct,.int .i64 most,.bool true,.int .i64 (g.macros.length:Int),.int .i64 0,.int .i64 0] 67)=w6 at *;generalize w5.heap.size=mb at *;clear s0 s1 s2 sf t0 tf;obtain ⟨q0,q1,q2,qf⟩:=Bk.c3 X6.out;go_wp2_with fail
   refine HCl.out.mono ?_;rintro e w7 ⟨rfl,hv,hk7,A7,c7,hm7,ht7⟩;have B7:=kp (show Below w.heap.size w w7 from B6.out.trans (hk7.below (fun k hk=>by unfold onMb at hk;have:=B5.out.size;omega) B6.out.size));have hb7:=hm7.blk;rw [hFm] at hb7;have MB8:=kp (Bk.keep hb7 (.cells #[.int .i64 pv.1,.int .i64 pv.2] 69));have V8:=kp (Bk.new w7 (.cells #[.int .i64 pv.1,.int .i64 pv.2] 69));have R7:=kp ((hk7.block (w.heap.size+3) (lt_of_block R6.out) (by unfold onMb;omega)).trans R6.out);have R8:=kp (Bk.keep R7.out (.cells #[.int .i64 pv.1,.int .i64 pv.2] 69));have B8:=kp (B7.out.alloc B7.out.size (.cells #[.int .i64 pv.1,.int .i64 pv.2] 69));have T8:=kp (hm7.table.on NodeR.lasts ((brq w7).alloc nlq (.cells #[.int .i64 pv.1,.int .i64 pv.2] 69)));have F8:=kp (Far.of_tn HFa.out ht7 (lt_of_block R6.out));have HQ:=kp (And.intro hm7.le (And.intro hm7.lm hm7.len));have VP:=kp hv;have hvr:w.heap.size+3≠w7.heap.size:=Nat.ne_of_lt (lt_of_block R7.out);have hmr:mb≠w.heap.size+3:=by omega
   unfold valV;clear hv hk7 hm7 ht7 hb7 q0 q1 q2 qf;go_upto_region 8 with fail
   generalize w7.alloc (.cells #[.int .i64 pv.1,.int .i64 pv.2] 69)=w8 at *;generalize w7.heap.size=vb at *;obtain ⟨m0,m1,m2,m3,m4,m5,m6,m7,m8,mf⟩:=Bk.c9 MB8.out
   by_cases he:ps.e=0
   ·have he1:(ps.e != 0)=false:=by simp [he]
    replace HO:=kp (show ans=(ps.t,pv.2,0) by rw [HO.out,if_neg (fun h=>h he)]);clear he;go_upto_region 10 with fail
    clear m0 m1 m2 m3 m4 m5 m6 m7 m8 mf;have C0:=kp (brq w8).drew;have RD:=kp (Bk.on R8.out C0.out);have BD:=kp (B8.out.trans (C0.out.mono B8.out.size));have TD:=kp (T8.out.on NodeR.lasts C0.out);have MD:=kp (Bk.on MB8.out C0.out);have VD:=kp (Bk.on V8.out C0.out);generalize hwd:w8.drew=wd at *;have K9:=kp (Keeps.refl (fun k=>k=w.heap.size+3) wd);have HM9:=kp (fun W (hW:Keeps (fun k=>k=w.heap.size+3) wd W)=>(hW.block mb (lt_of_block MD.out) hmr).trans MD.out);have HV9:=kp (fun W (hW:Keeps (fun k=>k=w.heap.size+3) wd W)=>(hW.block vb (lt_of_block VD.out) (Ne.symm hvr)).trans VD.out);obtain ⟨r0,rf⟩:=Bk.c1 RD.out;refine wp_region_held_drew (S:=fun W=>Keeps (fun k=>k=w.heap.size+3) wd W) (by kernel_rfl) ((by rw [hwd];exact Keeps.refl _ _)) (fun hHeld=>?_);refine plz [0,1,2,3,4,5] ?_;iterate 6 (refine tnz (v:=?_) ?_ ?_;rotate_left;(focus first | ((intro w hSw;go_simp;try with_reducible rfl);done) | ((intro w hSw;(obtain ⟨m0,m1,m2,m3,m4,m5,m6,m7,m8,mf⟩:=Bk.c9 (HM9.out _ hSw);go_simp;try with_reducible rfl));done) | ((intro w hSw;(obtain ⟨y0,y1,yf⟩:=Bk.c2 (HV9.out _ hSw);go_simp;try with_reducible rfl));done));try simp only [pt])
    refine pzz ?_;rw [hwd];refine rd 6 fun K hK=>?_;go_simp;refine hK.out _ _ ((K9.out.setCell (p:=⟨w.heap.size+3,0,none⟩) (.inl rfl) _)) (fun hHeld=>?_);clear hK K;try simp only [pt]
    refine plz [7,8] ?_;iterate 2 (refine tnz (v:=?_) ?_ ?_;rotate_left;(focus (intro w hSw;go_simp;try with_reducible rfl));try simp only [pt])
    refine pzz ?_;refine dnz ?_;go_wp2_with fail
    rw [HO.out];refine makes_ret (o:=(ps.t,pv.2,0)) (A':=A7) (c':=c7) Tryz.results13 (Bk.set_at RD.out 0 _) ?_ ?_ ?_ ?_ (lies_other TD.out F8.out) HQ.out.1 HQ.out.2.1 HQ.out.2.2 VP.out.2 (BD.out.setCell (p:=⟨w.heap.size+3,0,none⟩) (by show w.heap.size<=w.heap.size+3;omega) _) <;> rfl
   ·have he1:(ps.e != 0)=true:=by rw [bne_iff_ne];exact he
    replace HO:=kp (show ans=([],0,ps.e) by rw [HO.out,if_pos he]);clear he;go_upto_region 9 with fail
    clear m0 m1 m2 m3 m4 m5 m6 m7 m8 mf;have C0:=kp (brq w8).drew;have RD:=kp (Bk.on R8.out C0.out);have BD:=kp (B8.out.trans (C0.out.mono B8.out.size));have TD:=kp (T8.out.on NodeR.lasts C0.out);have MD:=kp (Bk.on MB8.out C0.out);have VD:=kp (Bk.on V8.out C0.out);generalize hwd:w8.drew=wd at *;have K9:=kp (Keeps.refl (fun k=>k=w.heap.size+3) wd);have HM9:=kp (fun W (hW:Keeps (fun k=>k=w.heap.size+3) wd W)=>(hW.block mb (lt_of_block MD.out) hmr).trans MD.out);have HV9:=kp (fun W (hW:Keeps (fun k=>k=w.heap.size+3) wd W)=>(hW.block vb (lt_of_block VD.out) (Ne.symm hvr)).trans VD.out);obtain ⟨r0,rf⟩:=Bk.c1 RD.out;refine wp_region_held_drew (S:=fun W=>Keeps (fun k=>k=w.heap.size+3) wd W) (by kernel_rfl) ((by rw [hwd];exact Keeps.refl _ _)) (fun hHeld=>?_);refine plz [0,1,2,3,4] ?_;iterate 5 (refine tnz (v:=?_) ?_ ?_;rotate_left;(focus first | ((intro w hSw;go_simp;try with_reducible rfl);done) | ((intro w hSw;(obtain ⟨m0,m1,m2,m3,m4,m5,m6,m7,m8,mf⟩:=Bk.c9 (HM9.out _ hSw);go_simp;try with_reducible rfl));done));try simp only [pt])
    refine pzz ?_;rw [hwd];refine rd 5 fun K hK=>?_;go_simp;refine hK.out _ _ ((K9.out.setCell (p:=⟨w.heap.size+3,0,none⟩) (.inl rfl) _)) (fun hHeld=>?_);clear hK K;try simp only [pt]
    refine plz [6,7] ?_;iterate 2 (refine tnz (v:=?_) ?_ ?_;rotate_left;(focus (intro w hSw;go_simp;try with_reducible rfl));try simp only [pt])
    refine pzz ?_;refine dnz ?_;go_wp2_with fail
    rw [HO.out];refine makes_ret (o:=([],0,ps.e)) (A':=none) (c':=0) Tryz.results13 (Bk.set_at RD.out 0 _) ?_ ?_ ?_ ?_ (.inl rfl) nlq (by unfold maxLen;omega) (by simp) v0_VI.1 (BD.out.setCell (p:=⟨w.heap.size+3,0,none⟩) (by show w.heap.size<=w.heap.size+3;omega) _) <;> rfl
  ·have hse1:(se != 0)=true:=by rw [bne_iff_ne];exact hse
   replace HO:=kp (show ans=([],0,se) by rw [HO.out,if_pos hse]);clear hse;go_wp2_with fail
   refine HS.out.mono ?_;rintro e w5 ⟨rfl,hb5⟩;have B5:=kp (B4.out.trans (hb5.mono B4.out.size));have R5:=kp (Bk.on R4.out hb5);clear hb5 s0 s1 s2 sf q0 q1 q2 qf;obtain ⟨r0,rf⟩:=Bk.c1 R5.out;go_wp2_with fail
   rw [HO.out];refine makes_ret (o:=([],0,se)) (A':=none) (c':=0) Tryz.results13 (Bk.set_at R5.out 0 _) ?_ ?_ ?_ ?_ (.inl rfl) nlq (by unfold maxLen;omega) (by simp) v0_VI.1 (B5.out.setCell (p:=⟨w.heap.size+3,0,none⟩) (by show w.heap.size<=w.heap.size+3;omega) _) <;> rfl
 ·have hck':(tableE g t != 0)=true:=by rw [bne_iff_ne];exact hck
  replace HO:=kp (show ans=([],0,2) by rw [HO.out,if_pos hck]);clear hck;go_wp2_with fail
  refine HC.out.mono ?_;rintro e w4 ⟨rfl,hb4⟩;have B4:=kp (B3.out.trans (hb4.mono B3.out.size));have R4:=kp (Bk.on R3.out hb4);clear hb4 s0 s1 s2 sf t0 tf;obtain ⟨r0,rf⟩:=Bk.c1 R4.out;go_wp2_with fail
  rw [HO.out];refine makes_ret (o:=([],0,2)) (A':=none) (c':=0) Tryz.results13 (Bk.set_at R4.out 0 _) ?_ ?_ ?_ ?_ (.inl rfl) nlq (by unfold maxLen;omega) (by simp) v0_VI.1 (B4.out.setCell (p:=⟨w.heap.size+3,0,none⟩) (by show w.heap.size<=w.heap.size+3;omega) _) <;> rfl
end El
namespace El
open Go.RowKit Dt Sg
theorem mac_cells {w:World} {A:Option Addr} {l:List Macro} (h:Lies 6 MacroR w A l) {k:Nat} {m:Macro} (hm:l[k]?=some m) :
  ∃ b o Ap cp Ab cb,A=some ⟨b,o,none⟩/\b < w.heap.size/\(w.cell? ⟨b,o+k * 6,none⟩=some (.string m.name)/\w.cell? ⟨b,o+k * 6+1,none⟩=some (.slice Ap m.params.length cp)/\w.cell? ⟨b,o+k * 6+2,none⟩=some (.int .i64 m.res)/\w.cell? ⟨b,o+k * 6+3,none⟩=some (.int .i8 m.body.kind)/\w.cell? ⟨b,o+k * 6+4,none⟩=some (.string m.body.text)/\w.cell? ⟨b,o+k * 6+5,none⟩=some (.slice Ab m.body.l.length cb)) /\
   Lies 2 ParamR w Ap m.params/\XAt w Ab cb m.body:=by
 obtain ⟨b,o,vs,rfl,hbl,_,hcell,Ap,cp,bv,rfl,hsx,hps,_⟩:=h.at' hm;obtain ⟨Ab,cb,rfl,_⟩:=hsx.open';exact⟨b,o,Ap,cp,Ab,cb,rfl,hbl,⟨hcell 0 _ rfl,hcell 1 _ rfl,hcell 2 _ rfl,hcell 3 _ rfl,hcell 4 _ rfl,hcell 5 _ rfl⟩,hps,hsx⟩
theorem flat_name:∀ (vs:List Vy) (k:Nat) (p:Vy) (s:ByteArray),vs[k]?=some p->flatV vy (vs.set k (s,p.2))=(flatV vy vs).set (k * 3) (.string s)
 | [],k,p,s,h=>by simp at h
 | u :: r,0,p,s,h=>by
  obtain rfl:u=p:=by simpa using h
  simp [flatV,vy]
 | u :: r,k+1,p,s,h=>by
  have:=flat_name r k p s (by simpa using h);rw [List.set_cons_succ];unfold flatV;rw [this];simp only [vy,List.cons_append,List.nil_append];rw [show(k+1) * 3=k * 3+1+1+1 by omega];simp only [List.set_cons_succ]
theorem VyRow.name {base:Nat} {w:World} {A:Option Addr} {c k:Nat} {vs:List Vy} {p:Vy} {s:ByteArray} (h:VyRow base w (.slice A vs.length c) vs) (hk:vs[k]?=some p) (hs:(s.size:Int)<=140737488351232) :
  ∃ g,A=some ⟨g,0,none⟩/\base<=g/\g < w.heap.size/\(∀ j,w.frozen? ⟨g,j,none⟩=false)/\w.cell? ⟨g,k * 3,none⟩=some (.string p.1)/\VyRow base (w.setCell ⟨g,k * 3,none⟩ (.string s)) (.slice A vs.length c) (vs.set k (s,p.2)):=by
 have hlt:=(gqs hk).1;have hc:=var_get h.lies hk;rcases h.own.2 with⟨h1,h2⟩ | ⟨g,cap,cur,h1,hg,hat,h2,h3,h4,h5⟩
 ·omega
 ·simp only [Value.slice.injEq,true_and] at h1;obtain ⟨rfl,rfl⟩:=h1;obtain ⟨b,o,hA,hb,⟨c0,_⟩,_⟩:=hc;obtain ⟨rfl,rfl⟩:=aiq hA;rw [Nat.zero_add] at c0;refine⟨g,rfl,hg,lt_of_block hat,fun j=>frozen_of_cells hat j,c0,⟨?_,?_⟩,fun u hu=>?_⟩
  ·rw [List.length_set,flat_name vs k p s hk,List.length_set];exact h.own.1
  ·refine .inr ⟨g,c,cur.setIfInBounds (k * 3) (.string s),by rw [List.length_set],hg,Bk.set_at hat (k * 3) _,by rw [List.length_set];exact h2,h3,by simpa using h4,?_⟩;rw [flat_name vs k p s hk,← h5,List.length_set];simp [List.take_set]
  ·obtain ⟨i,hi⟩:=List.getElem?_of_mem hu;rw [List.getElem?_set] at hi
   split at hi
   ·obtain rfl:(s,p.2)=u:=by simpa using hi
    exact⟨hs,(h.ok p (mgq hk)).2⟩
   ·exact h.ok u (mgq hi)
theorem vy_set_snd {us:List Vy} {k:Nat} {p:Vy} {s:ByteArray} (hk:us[k]?=some p):(us.set k (s,p.2)).map Prod.snd=us.map Prod.snd:=by
 apply List.ext_getElem?
 intro i;rw [List.getElem?_map,List.getElem?_map,List.getElem?_set]
 split
 ·rename_i h
  subst h;rw [if_pos (gqs hk).1,hk]
  rfl
 ·rfl
theorem mac_res {w:World} {A:Option Addr} {l:List Macro} (h:Lies 6 MacroR w A l) {k:Nat} {m:Macro} (hm:l[k]?=some m):I64 m.res:=by
 obtain ⟨b,o,vs,rfl,hbl,_,hcell,Ap,cp,bv,rfl,hsx,hps,_,_,_,hi⟩:=h.at' hm;exact hi
theorem par_name {w:World} {A:Option Addr} {l:List Param} (h:Lies 2 ParamR w A l) {k:Nat} {q:Param} (hq:l[k]?=some q):(q.name.size:Int)<=140737488351232:=by
 obtain ⟨_,_,_,hn,_⟩:=par_get h hq;exact hn
theorem applyR {F:RFix} (r:Sexp->St->V × St) {f:Fun4} (k:Nat) {l:List Sexp} {st:St} (h:(l.length:Int)=f.len):applyM (cxR F) r f k l st=((f.res,0),sortsM (allM r l st).1 [f.a0,f.a1,f.a2] (allM r l st).2):=by
 unfold applyM;rw [if_neg (fun hn=>hn h)];unfold putM;exact if_pos (.inr rfl)
theorem macroR {F:RFix} (r:Rec) (m:Macro) (k:Nat) (a:List V) (st:St):macroM (cxR F) r m k a st=((m.res,0),sortsM a (m.params.map Param.sort) st):=by
 unfold macroM;exact if_pos (.inr rfl)
theorem rcall_any {F:RFix} (hF:RFixOk F) {l:List Sexp} (hT:∀ y ∈ l,RTermC F y) {w:World} {st:St} (hm:RR F w st.e) (name:ByteArray) {A:Option Addr} (c:Nat) (hl:Lies 3 SexpR F.W0 A l) (hll:l.length<=3000000) {Av:Option Addr} {vs:List Vy} (cv:Nat) {env:Env} (hv:VarsS F w Av vs) (hvl:∀ y ∈ l,vs.length+y.full<=4000000) (he:st.e=0->EnvEq env vs) :
  Calls Tryz.prog 95 #[.pointer (some ⟨F.rb,0,none⟩),.string name,.slice A l.length c,.slice Av vs.length cv] w (RPost F w (callM (cxR F) (termP (cxR F)) F.g.macros.length name l env st)):=by
 have D1:=kp (RMid.new hm);have hlt:=hm.lt;have HAl:=kp (fun(W:World) (hk:Keeps (onRb F) w W) (hr:RR F W st.e)=>rall_any hF hT hr c hl hll cv (hv.on hk) hvl he);generalize hr:(fun y=>termP (cxR F) F.g.macros.length y env)=r at HAl
 have HS:=kp (show callM (cxR F) (termP (cxR F)) F.g.macros.length name l env st=if hasB (F.g.funs.map Fun4.name) name then match F.g.funs[findAt (F.g.funs.map Fun4.name) name]? with
  | some f=>applyM (cxR F) r f (findAt (F.g.funs.map Fun4.name) name) l st
  | none=>(v0,st)
 else if hasB (F.g.macros.map Macro.name) name/\findAt (F.g.macros.map Macro.name) name < F.g.macros.length then match F.g.macros[findAt (F.g.macros.map Macro.name) name]? with
  | some m =>
   if l.length≠m.params.length then(v0,failS 30 st)
   else macroM (cxR F) (termP (cxR F)) m (findAt (F.g.macros.map Macro.name) name) (allM r l st).1 (allM r l st).2
  | none=>(v0,st)
 else(v0,failS 31 st) by rw [← hr];rfl)
 have HFu:=kp (show ∀ W,Below F.W0.heap.size F.W0 W->Calls Tryz.prog 103 #[.agg #[.slice F.A1 F.g.sorts.length F.c1,.slice F.A2 F.g.funs.length F.c2,.slice F.A3 F.g.macros.length F.c3],.string name] W fun e w'=>e=.returned (.tuple #[.int .i64 (findAt (F.g.funs.map Fun4.name) name:Nat),.bool (hasB (F.g.funs.map Fun4.name) name)])/\Below W.heap.size W w' from fun W hW=>rfunat_any (A1:=F.A1) (A3:=F.A3) (n1:=F.g.sorts.length) (c1:=F.c1) (n3:=F.g.macros.length) (c3:=F.c3) (c:=F.c2) FunR.lasts Sg.fun_name ((hF.sig.on hW).funs) (by have:=hF.l2;omega) name);have HMa:=kp (show ∀ W,Below F.W0.heap.size F.W0 W->Calls Tryz.prog 21 #[.agg #[.slice F.A1 F.g.sorts.length F.c1,.slice F.A2 F.g.funs.length F.c2,.slice F.A3 F.g.macros.length F.c3],.string name] W fun e w'=>e=.returned (.tuple #[.int .i64 (findAt (F.g.macros.map Macro.name) name:Nat),.bool (hasB (F.g.macros.map Macro.name) name)])/\Below W.heap.size W w' from fun W hW=>rmacroat_any (A1:=F.A1) (A2:=F.A2) (n1:=F.g.sorts.length) (c1:=F.c1) (n2:=F.g.funs.length) (c2:=F.c2) (c:=F.c3) MacroR.lasts Sg.macro_name ((hF.sig.on hW).macros) (by have:=hF.l3;omega) name);have HGf:=kp (fun(h:hasB (F.g.funs.map Fun4.name) name=true)=>has_get h);have HGm:=kp (fun(h:hasB (F.g.macros.map Macro.name) name=true)=>has_get h);clear hm hl hT hv hvl he hr;generalize callM (cxR F) (termP (cxR F)) F.g.macros.length name l env st=res at *
 go_enter Tryz.func95,Tryz.ntmps95
 go_upto_region 1 with fail
 generalize w.alloc (.cells #[.string { data:=#[] },.int .i64 0,.int .i64 0] 94)=w1 at *;obtain ⟨m0,m1,m2,m3,m4,m5,m6,m7,m8,mf⟩:=Bk.c9 D1.out.rd.blk;go_wp2_with fail
 refine(HFu.out _ D1.out.rd.below).mono ?_;rintro e w2 ⟨rfl,hb2⟩;have D2:=kp (D1.out.below hb2);clear hb2 m0 m1 m2 m3 m4 m5 m6 m7 m8 mf HFu
 cases hhf:hasB (F.g.funs.map Fun4.name) name with
 | true =>
  obtain ⟨f,hf⟩:=HGf.out hhf;rw [hhf] at HS;replace HS:=kp (HS.out.trans (if_pos rfl));generalize findAt (F.g.funs.map Fun4.name) name=k at *;rw [hf] at HS;replace HS:=kp (show res=applyM (cxR F) r f k l st from HS.out);obtain ⟨fb,fo,hA2,hfat,hfi⟩:=fun_get hF.sig.funs hf;have hflt:(k:Int) < (F.g.funs.length:Int):=by have:=(gqs hf).1;omega
  have hk0:(0:Int)<=(k:Int):=by omega
  obtain ⟨_,f0,f1,f2,f3,f4,f5⟩:=hfat.on D2.out.rd.below;have hblk:=D2.out.rd.blk;rw [hA2] at hblk;obtain ⟨m0,m1,m2,m3,m4,m5,m6,m7,m8,mf⟩:=Bk.c9 hblk;have HFe:=kp hf;clear hhf hf hfat hfi HGf HGm HMa hblk
  by_cases h1:(l.length:Int)=f.len
  ·have g1:((l.length:Int) != f.len)=false:=by rw [h1];simp
   replace HS:=kp (HS.out.trans (applyR r k h1));have HLn:=kp h1;have HC:=kp (HAl.out _ D2.out.keeps D2.out.rd);clear h1;generalize allM r l st=q at *;go_wp2_with fail
   refine HC.out.mono ?_;rintro e w3 ⟨L3,c3',us,rfl,hul,hrow,hsame,hk3,hr3⟩;have D3:=kp (D2.out.call hk3 hr3);have HUl:=kp hul
   have HAp:=kp (show Calls Tryz.prog 151 #[.pointer (some ⟨F.rb,0,none⟩),.int .i64 (k:Int),.slice L3 l.length c3'] w3 (RPost F w3 ((f.res,0),sortsM q.1 [f.a0,f.a1,f.a2] q.2)) by
    have:=rapply_any hF hr3 HFe.out c3' (vs:=us) (a:=q.1) hrow.lies (by rw [hul];exact HLn.out) hsame
    rwa [hul] at this)
   clear hk3 hr3 hul hrow hsame f0 f1 f2 f3 f4 f5 m0 m1 m2 m3 m4 m5 m6 m7 m8 mf;go_wp2_with fail
   refine HAp.out.mono ?_;rintro e w7 ⟨nm7,s7,rfl,hv7,hk7,hm7⟩;have D7:=kp (D3.out.call hk7 hm7);clear hk7 hm7;obtain ⟨r0,r1,r2,rf⟩:=Bk.c3 D7.out.cell;go_wp2_with fail
   rw [HS.out];refine RMid.ret hF (q:=((f.res,0),sortsM q.1 [f.a0,f.a1,f.a2] q.2)) D7.out Tryz.results95 ?_ ?_ hv7 <;> rfl
  ·have g1:((l.length:Int) != f.len)=true:=by rw [bne_iff_ne];exact h1
   replace HS:=kp (show res=(v0,failS 30 st) by rw [HS.out];unfold applyM;exact if_pos h1);have HFl:=kp (fails_any hF (st:=st) D2.out.rd 30);clear h1 HAl;go_wp2_with fail
   refine HFl.out.mono ?_;rintro e w7 ⟨nm7,s7,rfl,hv7,hk7,hm7⟩;have D7:=kp (D2.out.call hk7 hm7);clear hk7 hm7;obtain ⟨r0,r1,r2,rf⟩:=Bk.c3 D7.out.cell;go_wp2_with fail
   rw [HS.out];refine RMid.ret hF (q:=(v0,failS 30 st)) D7.out Tryz.results95 ?_ ?_ hv7 <;> rfl
 | false =>
  rw [hhf] at HS;replace HS:=kp (HS.out.trans (if_neg (by decide)));clear hhf HGf;obtain ⟨m0,m1,m2,m3,m4,m5,m6,m7,m8,mf⟩:=Bk.c9 D2.out.rd.blk;go_wp2_with fail
  refine(HMa.out _ D2.out.rd.below).mono ?_;rintro e w3 ⟨rfl,hb3⟩;have D3:=kp (D2.out.below hb3);clear hb3 m0 m1 m2 m3 m4 m5 m6 m7 m8 mf HMa
  cases hhm:hasB (F.g.macros.map Macro.name) name with
  | false =>
   rw [hhm] at HS;replace HS:=kp (HS.out.trans (if_neg (fun h=>by cases h.1)));have HFl:=kp (fails_any hF (st:=st) D3.out.rd 31);clear hhm HGm HAl;go_wp2_with fail
   refine HFl.out.mono ?_;rintro e w7 ⟨nm7,s7,rfl,hv7,hk7,hm7⟩;have D7:=kp (D3.out.call hk7 hm7);clear hk7 hm7;obtain ⟨r0,r1,r2,rf⟩:=Bk.c3 D7.out.cell;go_wp2_with fail
   rw [HS.out];refine RMid.ret hF (q:=(v0,failS 31 st)) D7.out Tryz.results95 ?_ ?_ hv7 <;> rfl
  | true =>
   obtain ⟨m,hmm⟩:=HGm.out hhm;rw [hhm] at HS;generalize findAt (F.g.macros.map Macro.name) name=k at *;have hkl:=(gqs hmm).1;replace HS:=kp (HS.out.trans (if_pos ⟨rfl,hkl⟩));rw [hmm] at HS;replace HS:=kp (show res=if l.length≠m.params.length then(v0,failS 30 st) else macroM (cxR F) (termP (cxR F)) m k (allM r l st).1 (allM r l st).2 from HS.out);obtain ⟨mb0,mo,Ap,cp,Ab,cb,hA3,hmbl,⟨q0,q1,q2,q3,q4,q5⟩,hps,hxb⟩:=mac_cells hF.sig.macros hmm;have hklt:(k:Int) < (F.g.macros.length:Int):=by omega
   have hk0:(0:Int)<=(k:Int):=by omega
   have hb:=(bcell D3.out.rd.below).1 mb0;replace q0:=(hb _ hmbl).trans q0;replace q1:=(hb _ hmbl).trans q1;replace q2:=(hb _ hmbl).trans q2;replace q3:=(hb _ hmbl).trans q3;replace q4:=(hb _ hmbl).trans q4;replace q5:=(hb _ hmbl).trans q5;have hblk:=D3.out.rd.blk;rw [hA3] at hblk;obtain ⟨m0,m1,m2,m3,m4,m5,m6,m7,m8,mf⟩:=Bk.c9 hblk;have HPs:=kp hps;have MB:=kp (Bk.new w3 (.cells #[.string m.name,.slice Ap m.params.length cp,.int .i64 m.res,.int .i8 m.body.kind,.string m.body.text,.slice Ab m.body.l.length cb] 47));have D4:=kp (D3.out.alloc (.cells #[.string m.name,.slice Ap m.params.length cp,.int .i64 m.res,.int .i8 m.body.kind,.string m.body.text,.slice Ab m.body.l.length cb] 47));have hmw:=D3.out.keeps.size;have HMi:=kp (mac_res hF.sig.macros hmm);have hmr:w3.heap.size≠w.heap.size:=by have:=D3.out.size;omega
   clear hhm hmm hkl hps hxb hmbl hblk hb HGm;go_upto_region 11 with fail
   generalize w3.alloc (.cells #[.string m.name,.slice Ap m.params.length cp,.int .i64 m.res,.int .i8 m.body.kind,.string m.body.text,.slice Ab m.body.l.length cb] 47)=w4 at *;generalize w3.heap.size=mb at *;clear q0 q1 q2 q3 q4 q5 m0 m1 m2 m3 m4 m5 m6 m7 m8 mf;obtain ⟨y0,y1,y2,y3,y4,y5,yf⟩:=Bk.c6 MB.out
   by_cases h1:l.length=m.params.length
   ·have g1:((l.length:Int) != (m.params.length:Int))=false:=by rw [h1];simp
    replace HS:=kp ((HS.out.trans (if_neg (fun h=>h h1))).trans (macroR _ m k _ _));have HLn:=kp h1;have HC:=kp (HAl.out _ D4.out.keeps D4.out.rd);clear h1;generalize allM r l st=q at *;obtain ⟨a,st'⟩:=q;go_wp2_with fail
    refine HC.out.mono ?_;rintro e w5 ⟨L5,c5,us,rfl,hul,hrow,hsame,hk5,hr5⟩;have D5:=kp (D4.out.call hk5 hr5);have M5:=kp (D4.out.blk hk5 MB.out hmw);have HUl:=kp hul
    have HRw:=kp (show VyRow (mb+1) w5 (.slice L5 us.length c5) us by
     rw [hul];exact hrow.wide (lt_of_block MB.out))
    have HSame:=kp hsame;clear hk5 hr5 hul hrow hsame y0 y1 y2 y3 y4 y5 yf HAl
    by_cases he0:st'.e=0
    ·have he1:(st'.e == 0)=true:=by simp [he0]
     have he2:(st'.e != 0)=false:=by simp [he0]
     have HE0:=kp he0;have HS0:=kp (show res=((m.res,0),sortsM (a.drop 0) ((m.params.map Param.sort).drop 0) st') from HS.out);have HSm0:=kp (HSame.out he0);clear he0 HS HSame HC;go_wp2_with fail
     go_loopw [15] (fun i' wr=>∃ (j:Nat) (us:List Vy),j<=l.length/\i'=.int .i64 j/\us.length=l.length/\a.map Prod.fst=us.map Prod.snd/\res=((m.res,0),sortsM (a.drop j) ((m.params.map Param.sort).drop j) st')/\VyRow (mb+1) wr (.slice L5 us.length c5) us/\RMid F w w.heap.size wr st'.e/\wr.heap[mb]?=some (.cells #[.string m.name,.slice Ap m.params.length cp,.int .i64 m.res,.int .i8 m.body.kind,.string m.body.text,.slice Ab m.body.l.length cb] 47 (0,0))) (fun i' _=>l.length - (intOf i').toNat)
     case atStart=>exact⟨0,us,Nat.zero_le _,rfl,HUl.out,HSm0.out,HS0.out,HRw.out,D5.out,M5.out⟩
     case round =>
      clear HUl HSm0 HS0 HRw D5 M5 us;obtain ⟨j,us,hj,rfl,huj,hsm,hres,hrow,hmid,hmb⟩:=hrel;have HUj:=kp huj;have HSm:=kp hsm;have HRes:=kp hres;have RJ:=kp hrow;have DJ:=kp hmid;have MJ:=kp hmb;clear huj hsm hres hrow hmid hmb
      by_cases hjl:j < l.length
      ·have hlt2:(j:Int) < (l.length:Int):=by omega
       obtain ⟨p,hp⟩:∃ p,us[j]?=some p:=⟨_,gqe (by have:=HUj.out;omega)⟩;obtain ⟨q,hq⟩:∃ q,m.params[j]?=some q:=⟨_,gqe (by have:=HLn.out;omega)⟩;have HP:=kp hp;have HQn:=kp (par_name HPs.out hq);obtain ⟨g,hL,hgb,hgl,_,_,_⟩:=RJ.out.name hp (s:=q.name) HQn.out;have hgr:g≠w.heap.size:=by omega
       have hgw:w.heap.size<=g:=by omega
       have hgm:mb≠g:=by omega
       obtain ⟨b',o',hL',_,⟨s0,s1,s2⟩,_,_⟩:=var_get RJ.out.lies hp;rw [hL] at hL';simp only [Option.some.injEq,Addr.mk.injEq,and_true] at hL';obtain ⟨rfl,rfl⟩:=hL';rw [Nat.zero_add] at s0 s1 s2;obtain ⟨pb,po,rfl,_,hpc⟩:=par_get HPs.out hq;have HPc:=kp hpc;obtain ⟨z0,z1⟩:=hpc wr DJ.out.rd.below;obtain ⟨m0,m1,m2,m3,m4,m5,m6,m7,m8,mf⟩:=Bk.c9 DJ.out.rd.blk;obtain ⟨y0,y1,y2,y3,y4,y5,yf⟩:=Bk.c6 MJ.out;have hlt3:(j:Int) < (m.params.length:Int):=by have:=HLn.out;omega
       have hjp:j < m.params.length:=by have:=HLn.out;omega
       clear hpc m0 m1 m2 m3 m4 m5 m6 m7 mf y0 y2 y3 y4 y5 yf;subst hL;obtain ⟨v,hav,hvp⟩:=vy_at HSm.out hp;have HSs:=kp (show res=((m.res,0),sortsM (a.drop (j+1)) ((m.params.map Param.sort).drop (j+1)) (sortStep v q.sort st')) by rw [HRes.out,sortsM_at hav (by rw [List.getElem?_map,hq];rfl)]);clear hp hq hav
       by_cases hpq:p.2=q.sort
       ·have g2:(p.2 != q.sort)=false:=by rw [hpq];simp
        have HQ:=kp (show res=((m.res,0),sortsM (a.drop (j+1)) ((m.params.map Param.sort).drop (j+1)) st') by
         rw [HSs.out];unfold sortStep;rw [if_neg (fun h=>h.2 (hvp.trans hpq))])
        clear hpq hvp HSs;go_upto_region 17 with fail
        refine wp_region_held_drew (S:=fun W=>W.cell? ⟨F.rb,8,none⟩=some (.int .i64 st'.e)/\W.cell? ⟨g,j * 3+1,none⟩=some (.int .i64 p.2)/\W.cell? ⟨mb,1,none⟩=some (.slice (some ⟨pb,po,none⟩) m.params.length cp)/\W.cell? ⟨pb,po+j * 2+1,none⟩=some (.int .i64 q.sort)) (by kernel_rfl) (⟨m8,s1,y1,z1⟩) (fun hHeld=>?_);refine plz [0,1,2,3,4,5,6,7,8,9,10,11,12,13,14,15,16,17,18] ?_;iterate 19 (refine tnz (v:=?_) ?_ ?_;rotate_left;(focus (intro w hSw;go_simp;try with_reducible rfl));try simp only [pt])
        refine pzz ?_;refine dnz ?_;go_upto_region 19 with fail
        have DD:=kp DJ.out.drew;have MD:=kp (Bk.on MJ.out (brq wr).drew);have RD:=kp (RJ.out.below (brq wr).drew);clear hHeld s0 s1 s2 z0 z1 m8 y1;generalize wr.drew=wd at *;obtain ⟨y0,y1,y2,y3,y4,y5,yf⟩:=Bk.c6 MD.out;obtain ⟨z0,z1⟩:=HPc.out wd DD.out.rd.below;obtain ⟨g',hL',_,_,gf,gc,hrow'⟩:=RD.out.name HP.out (s:=q.name) HQn.out;simp only [Option.some.injEq,Addr.mk.injEq,and_true] at hL';subst hL';have gf0:=gf (j * 3);have RX:=kp hrow';have DX:=kp (DD.out.other hF hgw hgr (j * 3) (.string q.name));have MX:=kp (Bk.apart MD.out (p:=⟨g,j * 3,none⟩) hgm (.string q.name));clear hrow';go_wp2_with fail
        go_roundw
        case rel=>exact⟨j+1,us.set j (q.name,p.2),by omega,by go_num,by rw [List.length_set];exact HUj.out,by rw [vy_set_snd HP.out];exact HSm.out,HQ.out,by rw [List.length_set];exact RX.out,DX.out,MX.out⟩
        case measure=>simp [intOf];omega
       ·have g2:(p.2 != q.sort)=true:=by rw [bne_iff_ne];exact hpq
        have HQ:=kp (show res=((m.res,0),{ st' with e:=33 }) by
         rw [HSs.out];unfold sortStep;rw [if_pos ⟨HE0.out,fun h=>hpq (hvp.symm.trans h)⟩,sorts_stick _ _ _ (by show(33:Int)≠0;decide)])
        clear hpq hvp HSs;go_upto_region 17 with fail
        refine wp_region_held_drew (S:=fun W=>W.cell? ⟨F.rb,8,none⟩=some (.int .i64 st'.e)/\W.cell? ⟨g,j * 3+1,none⟩=some (.int .i64 p.2)/\W.cell? ⟨mb,1,none⟩=some (.slice (some ⟨pb,po,none⟩) m.params.length cp)/\W.cell? ⟨pb,po+j * 2+1,none⟩=some (.int .i64 q.sort)) (by kernel_rfl) (⟨m8,s1,y1,z1⟩) (fun hHeld=>?_);refine plz [0,1,2,3,4,5,6,7,8,9,10,11,12,13,14,15,16,17,18] ?_;iterate 19 (refine tnz (v:=?_) ?_ ?_;rotate_left;(focus (intro w hSw;go_simp;try with_reducible rfl));try simp only [pt])
        refine pzz ?_;refine dnz ?_;have DD:=kp DJ.out.drew;clear hHeld s0 s1 s2 z0 z1 m8;generalize wr.drew=wd at *;have HSf:=kp (show failS 33 st'={ st' with e:=33 } by unfold failS;rw [if_pos HE0.out]);have HFl:=kp (fails_any hF (st:=st') DD.out.rd 33);rw [HSf.out] at HFl;go_wp2_with fail
        refine HFl.out.mono ?_;rintro e w7 ⟨nm7,s7,rfl,hv7,hk7,hm7⟩;have D7:=kp (DD.out.call hk7 hm7);clear hk7 hm7;obtain ⟨r0,r1,r2,rf⟩:=Bk.c3 D7.out.cell;go_wp2_with fail
        rw [HQ.out];refine RMid.ret hF (q:=((m.res,0),{ st' with e:=33 })) D7.out Tryz.results95 ?_ ?_ ⟨hv7.size,hv7.i64,fun h=>absurd (show(33:Int)=0 from h) (by decide)⟩ <;> rfl
      ·obtain rfl:j=l.length:=by omega
       have HQ:=kp (show res=((m.res,0),st') by
        rw [HRes.out,List.drop_of_length_le (by have h1:=congrArg List.length HSm.out;have h2:=HUj.out;simp at h1;omega)];unfold sortsM;rfl)
       obtain ⟨m0,m1,m2,m3,m4,m5,m6,m7,m8,mf⟩:=Bk.c9 DJ.out.rd.blk;obtain ⟨y0,y1,y2,y3,y4,y5,yf⟩:=Bk.c6 MJ.out;obtain ⟨r0,r1,r2,rf⟩:=Bk.c3 DJ.out.cell;go_wp2_with fail
       rw [HQ.out];refine RMid.ret hF (q:=((m.res,0),st')) DJ.out Tryz.results95 ?_ ?_ ⟨by decide,HMi.out,fun _=>rfl⟩ <;> rfl
    ·have he1:(st'.e == 0)=false:=by simp [he0]
     have he2:(st'.e != 0)=true:=by simp [he0]
     have HQ:=kp (show res=((m.res,0),st') by rw [HS.out,sorts_stick _ _ _ he0]);have hno:st'.e≠0:=he0;clear he0 HS HSame HC;go_wp2_with fail
     go_loopw [15] (fun i' wr=>∃ (j:Nat) (us:List Vy),j<=l.length/\i'=.int .i64 j/\us.length=l.length/\VyRow (mb+1) wr (.slice L5 us.length c5) us/\RMid F w w.heap.size wr st'.e/\wr.heap[mb]?=some (.cells #[.string m.name,.slice Ap m.params.length cp,.int .i64 m.res,.int .i8 m.body.kind,.string m.body.text,.slice Ab m.body.l.length cb] 47 (0,0))) (fun i' _=>l.length - (intOf i').toNat)
     case atStart=>exact⟨0,us,Nat.zero_le _,rfl,HUl.out,HRw.out,D5.out,M5.out⟩
     case round =>
      clear HUl HRw D5 M5 us;obtain ⟨j,us,hj,rfl,huj,hrow,hmid,hmb⟩:=hrel;have HUj:=kp huj;have RJ:=kp hrow;have DJ:=kp hmid;have MJ:=kp hmb;clear huj hrow hmid hmb
      by_cases hjl:j < l.length
      ·have hlt2:(j:Int) < (l.length:Int):=by omega
       obtain ⟨p,hp⟩:∃ p,us[j]?=some p:=⟨_,gqe (by have:=HUj.out;omega)⟩;obtain ⟨q,hq⟩:∃ q,m.params[j]?=some q:=⟨_,gqe (by have:=HLn.out;omega)⟩;have HP:=kp hp;have HQn:=kp (par_name HPs.out hq);obtain ⟨g,hL,hgb,hgl,_,_,_⟩:=RJ.out.name hp (s:=q.name) HQn.out;have hgr:g≠w.heap.size:=by omega
       have hgw:w.heap.size<=g:=by omega
       have hgm:mb≠g:=by omega
       obtain ⟨b',o',hL',_,⟨s0,s1,s2⟩,_,_⟩:=var_get RJ.out.lies hp;rw [hL] at hL';simp only [Option.some.injEq,Addr.mk.injEq,and_true] at hL';obtain ⟨rfl,rfl⟩:=hL';rw [Nat.zero_add] at s0 s1 s2;obtain ⟨pb,po,rfl,_,hpc⟩:=par_get HPs.out hq;have HPc:=kp hpc;obtain ⟨z0,z1⟩:=hpc wr DJ.out.rd.below;obtain ⟨m0,m1,m2,m3,m4,m5,m6,m7,m8,mf⟩:=Bk.c9 DJ.out.rd.blk;obtain ⟨y0,y1,y2,y3,y4,y5,yf⟩:=Bk.c6 MJ.out;have hlt3:(j:Int) < (m.params.length:Int):=by have:=HLn.out;omega
       have hjp:j < m.params.length:=by have:=HLn.out;omega
       clear hpc m0 m1 m2 m3 m4 m5 m6 m7 mf y0 y2 y3 y4 y5 yf;subst hL;clear hp hq;go_upto_region 17 with fail
       refine wp_region_held_drew (S:=fun W=>W.cell? ⟨F.rb,8,none⟩=some (.int .i64 st'.e)/\W.cell? ⟨g,j * 3+1,none⟩=some (.int .i64 p.2)/\W.cell? ⟨mb,1,none⟩=some (.slice (some ⟨pb,po,none⟩) m.params.length cp)/\W.cell? ⟨pb,po+j * 2+1,none⟩=some (.int .i64 q.sort)) (by kernel_rfl) (⟨m8,s1,y1,z1⟩) (fun hHeld=>?_);refine plz [0,1,2,3,4,5] ?_;iterate 6 (refine tnz (v:=?_) ?_ ?_;rotate_left;(focus (intro w hSw;go_simp;try with_reducible rfl));try simp only [pt])
       refine pzz ?_;refine sk 6 ?_;try simp only [pt]
       refine sk 7 ?_;try simp only [pt]
       refine sk 8 ?_;try simp only [pt]
       refine sk 9 ?_;try simp only [pt]
       refine sk 10 ?_;try simp only [pt]
       refine sk 11 ?_;try simp only [pt]
       refine sk 12 ?_;try simp only [pt]
       refine sk 13 ?_;try simp only [pt]
       refine sk 14 ?_;try simp only [pt]
       refine sk 15 ?_;try simp only [pt]
       refine sk 16 ?_;try simp only [pt]
       refine sk 17 ?_;try simp only [pt]
       refine tk 18 (v:=?_) ?_ ?_;rotate_left
       ·(intro w hSw;go_simp;try with_reducible rfl)
       try simp only [pt]
       refine dnz ?_;go_upto_region 19 with fail
       have DD:=kp DJ.out.drew;have MD:=kp (Bk.on MJ.out (brq wr).drew);have RD:=kp (RJ.out.below (brq wr).drew);clear hHeld s0 s1 s2 z0 z1 m8 y1;generalize wr.drew=wd at *;obtain ⟨y0,y1,y2,y3,y4,y5,yf⟩:=Bk.c6 MD.out;obtain ⟨z0,z1⟩:=HPc.out wd DD.out.rd.below;obtain ⟨g',hL',_,_,gf,gc,hrow'⟩:=RD.out.name HP.out (s:=q.name) HQn.out;simp only [Option.some.injEq,Addr.mk.injEq,and_true] at hL';subst hL';have gf0:=gf (j * 3);have RX:=kp hrow';have DX:=kp (DD.out.other hF hgw hgr (j * 3) (.string q.name));have MX:=kp (Bk.apart MD.out (p:=⟨g,j * 3,none⟩) hgm (.string q.name));clear hrow';go_wp2_with fail
       go_roundw
       case rel=>exact⟨j+1,us.set j (q.name,p.2),by omega,by go_num,by rw [List.length_set];exact HUj.out,by rw [List.length_set];exact RX.out,DX.out,MX.out⟩
       case measure=>simp [intOf];omega
      ·obtain rfl:j=l.length:=by omega
       obtain ⟨m0,m1,m2,m3,m4,m5,m6,m7,m8,mf⟩:=Bk.c9 DJ.out.rd.blk;have hno2:¬ st'.e=0:=hno;obtain ⟨r0,r1,r2,rf⟩:=Bk.c3 DJ.out.cell;go_wp2_with fail
       rw [HQ.out];refine RMid.ret hF (q:=((m.res,0),st')) DJ.out Tryz.results95 ?_ ?_ (nil_ok (fun h=>absurd h hno2)) <;> rfl
   ·have g1:((l.length:Int) != (m.params.length:Int))=true:=by rw [bne_iff_ne];omega
    replace HS:=kp (HS.out.trans (if_pos h1));have HFl:=kp (fails_any hF (st:=st) D4.out.rd 30);clear h1 HAl;go_wp2_with fail
    refine HFl.out.mono ?_;rintro e w7 ⟨nm7,s7,rfl,hv7,hk7,hm7⟩;have D7:=kp (D4.out.call hk7 hm7);clear hk7 hm7;obtain ⟨r0,r1,r2,rf⟩:=Bk.c3 D7.out.cell;go_wp2_with fail
    rw [HS.out];refine RMid.ret hF (q:=(v0,failS 30 st)) D7.out Tryz.results95 ?_ ?_ hv7 <;> rfl
theorem lies_v1 {W:World} {b:Nat} {u:Vy} {t:TypeId} (h:W.heap[b]?=some (.cells #[.string u.1,.int .i64 u.2,.int .i64 0] t (0,0))) (hu:VyOk u):Lies 3 VarR W (some ⟨b,0,none⟩) [u]:=by
 have:=lies_blk (n:=3) (f:=id) (R:=VarR) (val:=vy) (L:=vy u) [u] h (by simp [flatV]) (fun _=>rfl) (fun y hy=>by
  obtain rfl:y=u:=by simpa using hy
  exact⟨rfl,hu⟩)
 simpa using this
theorem lies_v2 {W:World} {b:Nat} {u v:Vy} {t:TypeId} (h:W.heap[b]?=some (.cells #[.string u.1,.int .i64 u.2,.int .i64 0,.string v.1,.int .i64 v.2,.int .i64 0] t (0,0))) (hu:VyOk u) (hv:VyOk v):Lies 3 VarR W (some ⟨b,0,none⟩) [u,v]:=by
 have:=lies_blk (n:=3) (f:=id) (R:=VarR) (val:=vy) (L:=vy u ++ vy v) [u,v] h (by simp [flatV]) (fun _=>rfl) (fun y hy=>by
  simp only [List.mem_cons,List.not_mem_nil,or_false] at hy;rcases hy with rfl | rfl
  ·exact⟨rfl,hu⟩
  ·exact⟨rfl,hv⟩)
 simpa using this
theorem opR_n {F:RFix} (op n n':Int) (l:List V) (st:St):opM (cxR F) op n l st=opM (cxR F) op n' l st:=by rw [opR,opR]
theorem diffR {F:RFix} (x y:V) (n:Int) (st:St):diffM (cxR F) x y n st=opM (cxR F) 12 0 [x,y] st:=by
 unfold diffM;rw [if_neg (fun h=>by cases h.1)];exact opR_n _ _ _ _ _
structure VIs (u:Vy) (v:V) (st:St):Prop where
 ok:VyOk u
 same:st.e=0->u.2=v.1
theorem VIs.of {nm:ByteArray} {s:Int} {q:V × St} (h:VOk nm s q):VIs (nm,s) q.1 q.2:=⟨⟨h.size,h.i64⟩,h.same⟩
theorem VIs.on {u:Vy} {v:V} {st st':St} (h:VIs u v st) (he:st'.e=0->st.e=0):VIs u v st':=⟨h.ok,fun h'=>h.same (he h')⟩
theorem rdiff_any {F:RFix} (hF:RFixOk F) {w:World} {st:St} (hm:RR F w st.e) {x y:Vy} {vx vz:V} (hx:VIs x vx st) (hy:VIs y vz st) (n:Int) :
  Calls Tryz.prog 182 #[.pointer (some ⟨F.rb,0,none⟩),.agg #[.string x.1,.int .i64 x.2,.int .i64 0],.agg #[.string y.1,.int .i64 y.2,.int .i64 0],.int .i64 n] w (RPost F w (opM (cxR F) 12 0 [vx,vz] st)):=by
 have B2:=kp (((brq w).alloc nlq (.cells #[.string x.1,.int .i64 x.2,.int .i64 0] 94)).alloc (by simp) (.cells #[.string y.1,.int .i64 y.2,.int .i64 0] 94));have Z2:=kp (show((w.alloc (.cells #[.string x.1,.int .i64 x.2,.int .i64 0] 94)).alloc (.cells #[.string y.1,.int .i64 y.2,.int .i64 0] 94)).heap.size=w.heap.size+1+1 by simp);have D1:=kp (RMid.newOn hm B2.out);have X1:=kp (Bk.keep (Bk.keep (Bk.new w (.cells #[.string x.1,.int .i64 x.2,.int .i64 0] 94)) (.cells #[.string y.1,.int .i64 y.2,.int .i64 0] 94)) (.cells #[.string { data:=#[] },.int .i64 0,.int .i64 0] 94));have Y1:=kp (Bk.keep (show((w.alloc (.cells #[.string x.1,.int .i64 x.2,.int .i64 0] 94)).alloc (.cells #[.string y.1,.int .i64 y.2,.int .i64 0] 94)).heap[w.heap.size+1]?=some (.cells #[.string y.1,.int .i64 y.2,.int .i64 0] 94 (0,0)) by have h:=Bk.new (w.alloc (.cells #[.string x.1,.int .i64 x.2,.int .i64 0] 94)) (.cells #[.string y.1,.int .i64 y.2,.int .i64 0] 94);simpa using h) (.cells #[.string { data:=#[] },.int .i64 0,.int .i64 0] 94));rw [Z2.out] at D1;have HXk:=kp hx;have HYk:=kp hy;clear hm hx hy
 go_enter Tryz.func182,Tryz.ntmps182
 go_upto_region 1 with fail
 generalize ((w.alloc (.cells #[.string x.1,.int .i64 x.2,.int .i64 0] 94)).alloc (.cells #[.string y.1,.int .i64 y.2,.int .i64 0] 94)).alloc (.cells #[.string { data:=#[] },.int .i64 0,.int .i64 0] 94)=w1 at *;obtain ⟨m0,m1,m2,m3,m4,m5,m6,m7,m8,mf⟩:=Bk.c9 D1.out.rd.blk;obtain ⟨x0,x1,x2,xf⟩:=Bk.c3 X1.out;obtain ⟨y0,y1,y2,yf⟩:=Bk.c3 Y1.out;have D2:=kp (D1.out.alloc (.cells #[.string x.1,.int .i64 x.2,.int .i64 0,.string y.1,.int .i64 y.2,.int .i64 0] 94));have S2:=kp (Bk.new w1 (.cells #[.string x.1,.int .i64 x.2,.int .i64 0,.string y.1,.int .i64 y.2,.int .i64 0] 94));have HOp:=kp (rdop_any hF D2.out.rd 12 0 (vs:=[x,y]) (lV:=[vx,vz]) 2 (lies_v2 S2.out HXk.out.ok HYk.out.ok) (by simp) (fun h=>by simp [HXk.out.same h,HYk.out.same h]));generalize opM (cxR F) 12 0 [vx,vz] st=res at *;go_wp2_with fail
 refine HOp.out.mono ?_;rintro e w7 ⟨nm7,s7,rfl,hv7,hk7,hm7⟩;have D7:=kp (D2.out.call hk7 hm7);clear hk7 hm7;obtain ⟨r0,r1,r2,rf⟩:=Bk.c3 D7.out.cell;go_wp2_with fail
 refine RMid.ret hF (q:=res) D7.out Tryz.results182 ?_ ?_ hv7 <;> rfl
theorem radd_any {F:RFix} (hF:RFixOk F) {w:World} {st:St} (hm:RR F w st.e) {x:Vy} {vx:V} (hx:VIs x vx st) (n:Int) :
  Calls Tryz.prog 183 #[.pointer (some ⟨F.rb,0,none⟩),.agg #[.string x.1,.int .i64 x.2,.int .i64 0],.int .i64 n] w (RPost F w (opM (cxR F) 11 0 [vx] st)):=by
 have B1:=kp ((brq w).alloc nlq (.cells #[.string x.1,.int .i64 x.2,.int .i64 0] 94));have Z1:=kp (show(w.alloc (.cells #[.string x.1,.int .i64 x.2,.int .i64 0] 94)).heap.size=w.heap.size+1 by simp);have D1:=kp (RMid.newOn hm B1.out);have X1:=kp (Bk.keep (Bk.new w (.cells #[.string x.1,.int .i64 x.2,.int .i64 0] 94)) (.cells #[.string { data:=#[] },.int .i64 0,.int .i64 0] 94));rw [Z1.out] at D1;have HXk:=kp hx;clear hm hx
 go_enter Tryz.func183,Tryz.ntmps183
 go_upto_region 1 with fail
 generalize (w.alloc (.cells #[.string x.1,.int .i64 x.2,.int .i64 0] 94)).alloc (.cells #[.string { data:=#[] },.int .i64 0,.int .i64 0] 94)=w1 at *;obtain ⟨m0,m1,m2,m3,m4,m5,m6,m7,m8,mf⟩:=Bk.c9 D1.out.rd.blk;obtain ⟨x0,x1,x2,xf⟩:=Bk.c3 X1.out;have D2:=kp (D1.out.alloc (.cells #[.string x.1,.int .i64 x.2,.int .i64 0] 94));have S2:=kp (Bk.new w1 (.cells #[.string x.1,.int .i64 x.2,.int .i64 0] 94));have HOp:=kp (rdop_any hF D2.out.rd 11 0 (vs:=[x]) (lV:=[vx]) 1 (lies_v1 S2.out HXk.out.ok) (by simp) (fun h=>by simp [HXk.out.same h]));generalize opM (cxR F) 11 0 [vx] st=res at *;go_wp2_with fail
 refine HOp.out.mono ?_;rintro e w7 ⟨nm7,s7,rfl,hv7,hk7,hm7⟩;have D7:=kp (D2.out.call hk7 hm7);clear hk7 hm7;obtain ⟨r0,r1,r2,rf⟩:=Bk.c3 D7.out.cell;go_wp2_with fail
 refine RMid.ret hF (q:=res) D7.out Tryz.results183 ?_ ?_ hv7 <;> rfl
theorem find_env {env:Env} {vs:List Vy} (h:EnvEq env vs) (s:ByteArray):(findV vs s=none/\findE env s=none)\/∃ p v,findV vs s=some p/\findE env s=some v/\p.2=v.1/\p ∈ vs:=by
 unfold findV findE;rw [← h,List.find?_map];have e:((fun p:Vy=>decide (p.1=s)) ∘ fun q:ByteArray × V=>(q.1,q.2.1))=fun q:ByteArray × V=>decide (q.1=s):=by funext q;rfl
 rw [e]
 cases hf:env.find? (fun q=>decide (q.1=s)) with
 | none=>exact .inl ⟨rfl,rfl⟩
 | some q =>
  refine .inr ⟨(q.1,q.2.1),q.2,rfl,rfl,rfl,?_⟩;have hm:=List.mem_of_find?_eq_some hf;rw [← List.mem_reverse,← h];exact List.mem_map.2 ⟨q,hm,rfl⟩
end El
end Go.Proofs.YtpmdcckapddchaaGreat
