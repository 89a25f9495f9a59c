import Derived.Test.YtpmdcckapddchaaGreatDoorShort
import Derived.Test.YtpmdcckapddchaaGreatDoorMzh
import Derived.Test.YtpmdcckapddchaaGreatDoorMe
import Derived.Test.YtpmdcckapddchaaGreatDoorMzg
/- merged by wip/merge.py from: ElAlike ElEqual ElDist ElMake -/
set_option maxRecDepth 100000
set_option maxHeartbeats 51200000
namespace Go.Proofs.YtpmdcckapddchaaGreatDoor
namespace El
open Go.RowKit Go.Maps Dt Sg
theorem alike1_any {w:World} {bb n c:Nat} {L:Option Addr} {l:List V} {x:V} (v:V) (hb:w.heap[bb]?=some (.cells #[.slice L n c] 154 (0,0))) (hl:Lies 2 ValR w L l) (hx:l[0]?=some x) (hn:0 < n) :
  Calls Tryz.prog 192 #[.agg #[.int .i64 v.1,.int .i64 v.2],.pointer (some ⟨bb,0,none⟩)] w fun e w'=>e=.returned (.bool (v.1 != x.1))/\Below w.heap.size w w':=by
 have B1:=kp ((brq w).alloc nlq (.cells #[.int .i64 v.1,.int .i64 v.2] 82));have N1:=kp (Bk.new w (.cells #[.int .i64 v.1,.int .i64 v.2] 82));have HBk:=kp (Bk.on hb B1.out);have HLv:=kp (hl.on ValR.lasts B1.out);obtain ⟨b,o,rfl,_,_,_,_⟩:=val_get hl hx;have hn2:(0:Int) < (n:Int):=by omega
 clear hb hl
 go_enter Tryz.func192,Tryz.ntmps192
 go_upto_region 1 with fail
 generalize w.alloc (.cells #[.int .i64 v.1,.int .i64 v.2] 82)=w1 at *;have B0:=kp (brq w1).drew
 have HR:=kp (fun W (hW:Below w1.heap.size w1 W)=>show W.cell? ⟨b,o,none⟩=some (.int .i64 x.1) by
  obtain ⟨b1,o1,hA,_,e0,e1,_⟩:=val_get (HLv.out.on ValR.lasts hW) hx;obtain ⟨rfl,rfl⟩:=aiq hA
  rwa [Nat.zero_mul,Nat.add_zero] at e0)
 refine wp_region_held_drew (S:=fun W=>Below w1.heap.size w1 W) (by kernel_rfl) (B0.out) (fun hHeld=>?_);refine plz [0,1,2,3,4,5,6,7] ?_;iterate 8 (refine tnz (v:=?_) ?_ ?_;rotate_left;(focus first | ((intro w hSw;go_simp;try with_reducible rfl);done) | ((intro w hSw;(obtain ⟨v0',v1',vf⟩:=Bk.c2 (Bk.on N1.out hSw);go_simp;try with_reducible rfl));done) | ((intro w hSw;(obtain ⟨v0',vf⟩:=Bk.c1 (Bk.on HBk.out hSw);go_simp;try with_reducible rfl));done) | ((intro w hSw;(have e0:=HR.out _ hSw;go_simp;try with_reducible rfl));done));try simp only [pt])
 refine pzz ?_;refine dnz ?_;go_wp2_with fail
 go_ret;exact⟨rfl,B1.out.trans (B0.out.mono B1.out.size)⟩
theorem idx_vals {w:World} {bb c:Nat} {L:Option Addr} {l:List V} {x:V} (hb:w.heap[bb]?=some (.cells #[.slice L l.length c] 154 (0,0))) (hl:Lies 2 ValR w L l) (hx:l[0]?=some x) (hlen:l.length<=8000000000000) :
  Calls Tryz.prog 198 #[.slice L l.length c,.func (Fn.func 192) #[] #[.pointer (some ⟨bb,0,none⟩)]] w fun e w'=>IdxPost (l.any fun v=>v.1 != x.1) e/\Below w.heap.size w w':=by
 have HBb:=kp hb;have HL:=kp hl;have HX:=kp hx;have hpos:0 < l.length:=by have:=(gqs hx).1;exact this
 clear hb hl hx
 go_enter Tryz.func198,Tryz.ntmps198
 go_wp2_with fail
 go_loopw [8] (fun v wr=>∃ k:Nat,k<=l.length/\v=.int .i64 k/\(l.take k).any (fun v=>v.1 != x.1)=false/\Below w.heap.size w wr) (fun v _=>l.length - (intOf v).toNat)
 case atStart=>exact⟨0,Nat.zero_le _,rfl,rfl,Below.refl _ _⟩
 case round =>
  obtain ⟨k,hk,rfl,hn,hbl⟩:=hrel;have HN:=kp hn;have HB:=kp hbl;clear hn hbl
  by_cases hlt:k < l.length
  ·have hlt2:(k:Int) < (l.length:Int):=by omega
   obtain ⟨y,hy⟩:∃ y,l[k]?=some y:=⟨_,gqe hlt⟩;obtain ⟨b,o,rfl,_,e0,e1,_⟩:=val_get (HL.out.on ValR.lasts HB.out) hy;have HC:=kp (alike1_any y (Bk.on HBb.out HB.out) (HL.out.on ValR.lasts HB.out) HX.out hpos);have HY:=kp hy;clear hy
   cases hq:y.1 != x.1 with
   | false =>
    have HQ:=kp (show(l.take (k+1)).any (fun v=>v.1 != x.1)=false by rw [List.take_add_one,HY.out,List.any_append,HN.out];simpa using hq);rw [hq] at HC;clear hq;go_wp2_with fail
    refine HC.out.mono ?_;rintro e w2 ⟨rfl,hb2⟩;have HB2:=kp (HB.out.trans (hb2.mono HB.out.size));clear hb2;go_wp2_with fail
    go_roundw
    case rel=>exact⟨k+1,by omega,by go_num,HQ.out,HB2.out⟩
    case measure=>simp [intOf];omega
   | true =>
    have HQ:=kp (show l.any (fun v=>v.1 != x.1)=true by rw [List.any_eq_true];exact⟨y,mgq HY.out,hq⟩);rw [hq] at HC;clear hq;go_wp2_with fail
    refine HC.out.mono ?_;rintro e w2 ⟨rfl,hb2⟩;have HB2:=kp (HB.out.trans (hb2.mono HB.out.size));clear hb2;go_wp2_with fail
    go_ret;exact⟨⟨k,rfl,by rw [HQ.out];exact decide_eq_true (by omega)⟩,HB2.out⟩
  ·obtain rfl:k=l.length:=by omega
   have HQ:=kp (show l.any (fun v=>v.1 != x.1)=false by have h:=HN.out;rwa [List.take_length] at h);go_wp2_with fail
   go_ret;exact⟨⟨-1,rfl,by rw [HQ.out];exact dfq (by omega)⟩,HB.out⟩
theorem contains_vals {w:World} {A:Option Addr} {n c:Nat} {q:Bool} {fv:Value} (h:Calls Tryz.prog 198 #[.slice A n c,fv] w fun e w'=>IdxPost q e/\Below w.heap.size w w') :
  Calls Tryz.prog 191 #[.slice A n c,fv] w fun e w'=>e=.returned (.bool q)/\Below w.heap.size w w':=by
 have HI:=kp h;clear h
 go_enter Tryz.func191,Tryz.ntmps191
 go_wp2_with fail
 refine HI.out.mono ?_;rintro e w1 ⟨⟨r,rfl,hr⟩,hb⟩;have HR:=kp hr;have HB:=kp hb;clear hr hb;go_wp2_with fail
 go_ret;exact⟨ret_bool HR.out,HB.out⟩
theorem elike_eq {l:List V} {x:V} (hx:l[0]?=some x):(l.any fun v=>v.1 != x.1)=!alikeB l:=by
 unfold alikeB;rw [List.getD_eq_getElem?_getD,hx,List.any_eq_not_all_not];simp only [Option.getD_some,bne,Bool.not_not]
def alikeS (l:List V) (st:St):St:=if alikeB l then st else failS 33 st
def MbPost (F:Fix) (known:Int) (w:World) (t:List Node) (At:Option Addr) (b:Bool) (st':St) (e:Ending) (w':World):Prop :=
 e=.returned (.bool b)/\Keeps (onMb F) w w'/\∃ A' c',Mk F w' known st' A' c'/\TN w.heap.size t At st'.t A'
theorem elike_any {F:Fix} (hF:FixOk F) {w:World} {known:Int} {st:St} {At:Option Addr} {ct:Nat} (hm:Mk F w known st At ct) {L:Option Addr} {l:List V} (cl:Nat) (hl:ValsS F w L l) (h1:l≠[]) (hll:l.length<=8000000000000) :
  Calls Tryz.prog 177 #[.pointer (some ⟨F.mb,0,none⟩),.slice L l.length cl] w (MbPost F known w st.t At (decide ((alikeS l st).e=0)) (alikeS l st)):=by
 obtain ⟨x,hx⟩:∃ x,l[0]?=some x:=⟨_,gqe (List.length_pos_iff.2 h1)⟩;have B1:=kp ((brq w).alloc nlq (.cells #[.slice L l.length cl] 154));have N1:=kp (Bk.new w (.cells #[.slice L l.length cl] 154));have M1:=kp (hm.keep B1.out);have HI:=kp (contains_vals (idx_vals N1.out (hl.below B1.out).now hx hll));rw [elike_eq hx] at HI;have HS:=kp (show alikeS l st=if alikeB l then st else failS 33 st from rfl);have HF:=kp (fun(W:World) (h:Below w.heap.size w W)=>fail_any hF (hm.keep h) 33 (by decide));clear hm hl hx;generalize alikeS l st=st1 at *;generalize alikeB l=al at *
 go_enter Tryz.func177,Tryz.ntmps177
 go_upto_region 1 with fail
 generalize w.alloc (.cells #[.slice L l.length cl] 154)=w1 at *;obtain ⟨c0,cf⟩:=Bk.c1 N1.out;go_wp2_with fail
 refine HI.out.mono ?_;rintro e w2 ⟨rfl,hb2⟩;have B2:=kp (B1.out.trans (hb2.mono B1.out.size));have M2:=kp (M1.out.keep hb2);clear hb2
 cases al with
 | true =>
  replace HS:=kp (show st1=st from HS.out);obtain ⟨m0,m1,m2,m3,m4,m5,m6,m7,m8,mf⟩:=Bk.c9 M2.out.blk;go_wp2_with fail
  go_ret;exact⟨by rw [HS.out];congr,Keeps.of_below B2.out _,At,ct,by rw [HS.out];exact M2.out,by rw [HS.out];exact TN.refl _ _ _⟩
 | false =>
  replace HS:=kp (show st1=failS 33 st from HS.out);have HF2:=kp (HF.out _ B2.out);go_wp2_with fail
  refine HF2.out.mono ?_;rintro e w7 ⟨rfl,hv,hk7,A7,c7,hm7,ht7⟩;have K7:=kp ((Keeps.of_below B2.out (onMb F)).trans_same hk7);have T7:=kp (ht7.mono B2.out.size);have M7:=kp hm7;rw [← HS.out] at M7 T7;obtain ⟨m0,m1,m2,m3,m4,m5,m6,m7,m8,mf⟩:=Bk.c9 M7.out.blk;clear hk7 hm7 ht7 hv;go_wp2_with fail
  go_ret;exact⟨by congr,K7.out,A7,c7,M7.out,T7.out⟩
theorem equal_any {F:Fix} (hF:FixOk F) {w:World} {known:Int} {st:St} {At:Option Addr} {ct:Nat} (hm:Mk F w known st At ct) {L:Option Addr} {l:List V} (cl:Nat) (hcl:l.length<=cl) (hl:ValsS F w L l) (h2:2<=l.length) (hll:l.length<=8000000000000) :
  Calls Tryz.prog 146 #[.pointer (some ⟨F.mb,0,none⟩),.slice L l.length cl] w (MkPost F known w st.t At (equalM F.c l st).1 (equalM F.c l st).2):=by
 have h1:l≠[]:=by intro e;rw [e] at h2;simp at h2
 have D1:=kp (Mid.new hm);have HAl:=kp (elike_any hF D1.out.maker cl (hl.on D1.out.keeps) h1 hll);have HS:=kp (show equalM F.c l st=if(alikeS l st).e≠0 then(v0,alikeS l st) else headM F.c 2 (eqsM F.c (l.getD 0 v0) l.tail (alikeS l st)).1 (eqsM F.c (l.getD 0 v0) l.tail (alikeS l st)).2 from rfl);have HLv:=kp hl;obtain ⟨x,r,rfl⟩:=List.exists_cons_of_ne_nil h1;have HLn:=kp (show(x :: r).length=r.length+1 from rfl);have hr1:1<=r.length:=by rw [HLn.out] at h2;omega
 have hrl:r.length < 8000000000000:=by rw [HLn.out] at hll;omega
 have hlt:=hm.lt;clear hl hm h1 h2 hll;generalize equalM F.c (x :: r) st=res at *;generalize alikeS (x :: r) st=st1 at *;generalize hxn:(x :: r).length=xn at *;obtain rfl:xn=r.length+1:=HLn.out;clear hxn
 go_enter Tryz.func146,Tryz.ntmps146
 go_upto_region 1 with fail
 generalize w.alloc (.cells #[.int .i64 0,.int .i64 0] 82)=w1 at *;go_wp2_with fail
 refine HAl.out.mono ?_;rintro e w2 ⟨rfl,hk2,A2,c2,hm2,ht2⟩;have D2:=kp (D1.out.call hk2 hm2 ht2);clear hk2 hm2 ht2 HAl
 by_cases he:st1.e=0
 ·replace HS:=kp (show res=headM F.c 2 (eqsM F.c x r st1).1 (eqsM F.c x r st1).2 by rw [HS.out,if_neg (by simp [he])];rfl);have he1:decide (st1.e=0)=true:=decide_eq_true he;have hc1:¬ cl=1:=by omega
  have hcl2:1<=cl:=by omega
  rw [he1];clear he he1;go_wp2_with fail
  go_loopw [5,15] (fun v' i' wr=>∃ (k:Nat) (y:V) (vs:List V) (st':St) (A':Option Addr) (c':Nat),k<=r.length/\i'=.int .i64 k/\(x :: r)[k]?=some y/\vs.length=k/\res=headM F.c 2 (vs ++ (eqsM F.c y (r.drop k) st').1) (eqsM F.c y (r.drop k) st').2/\VRow (w.heap.size+1) st'.t A' wr v' vs/\Mid F known w st.t At w.heap.size wr st' A' c') (fun _ i' _=>r.length - (intOf i').toNat)
  case atStart=>exact⟨0,x,[],st1,A2,c2,Nat.zero_le _,rfl,rfl,rfl,HS.out,VRow.nil _ _ _ _,D2.out⟩
  case round =>
   obtain ⟨k,y,vs,st',A',c',hk,rfl,hy,hvl,hres,hrow,hmid⟩:=hrel;have HRes:=kp hres;have HRow:=kp hrow;have DR:=kp hmid;have HY:=kp hy;obtain ⟨Ao,co,rfl,hsh1,hsh2⟩:=hrow.shape;clear hres hrow hmid hy
   by_cases hkl:k < r.length
   ·have hlt2:(k:Int) < (r.length:Int):=by omega
    have hlt3:(k:Int) < (r.length:Int)+1:=by omega
    have hkw:IntKind.i64.wrap ((k:Int)+1)=(k:Int)+1:=IntWalk.i64_in _ (by omega);have hk0:0<=(k:Int)+1:=by omega
    have hkt:((k:Int)+1).toNat=k+1:=by omega
    obtain ⟨z,hz⟩:∃ z,r[k]?=some z:=⟨_,gqe hkl⟩
    have HDr:=kp (show r.drop k=z :: r.drop (k+1) by
     rw [List.drop_eq_getElem_cons hkl];rw [gqe hkl] at hz;simp at hz;rw [hz])
    rw [HDr.out] at HRes;replace HRes:=kp (show res=headM F.c 2 (vs ++ ((opM F.c 6 0 [y,z] st').1 :: (eqsM F.c z (r.drop (k+1)) (opM F.c 6 0 [y,z] st').2).1)) (eqsM F.c z (r.drop (k+1)) (opM F.c 6 0 [y,z] st').2).2 from HRes.out);have HZ:=kp (show(x :: r)[k+1]?=some z by simpa using hz);obtain ⟨b,o,rfl,_,_,_,hvy⟩:=val_get HLv.out.now HY.out;obtain ⟨b',o',hA,_,_,_,hvz⟩:=val_get HLv.out.now HZ.out;obtain ⟨rfl,rfl⟩:=aiq hA;have VY:=kp hvy;have VZ:=kp hvz
    have HYr:=kp (fun W (hW:Keeps (onMb F) w W)=>show(W.cell? ⟨b,o+k * 2,none⟩=some (.int .i64 y.1)/\W.cell? ⟨b,o+k * 2+1,none⟩=some (.int .i64 y.2))/\W.cell? ⟨b,o+(k+1) * 2,none⟩=some (.int .i64 z.1)/\W.cell? ⟨b,o+(k+1) * 2+1,none⟩=some (.int .i64 z.2) by
     obtain ⟨b1,o1,hA,_,e0,e1,_⟩:=val_get (HLv.out.on hW).now HY.out;obtain ⟨b2,o2,hA2,_,e2,e3,_⟩:=val_get (HLv.out.on hW).now HZ.out;simp only [Option.some.injEq,Addr.mk.injEq,and_true] at hA hA2;obtain ⟨rfl,rfl⟩:=hA;obtain ⟨rfl,rfl⟩:=hA2;exact⟨⟨e0,e1⟩,e2,e3⟩)
    clear hvy hvz hz HDr;go_upto_region 7 with fail
    have DB:=kp (DR.out.drew.alloc (.cells #[.int .i64 y.1,.int .i64 y.2,.int .i64 z.1,.int .i64 z.2] 82));have NB:=kp (show(wr.drew.alloc (.cells #[.int .i64 y.1,.int .i64 y.2,.int .i64 z.1,.int .i64 z.2] 82)).heap[wr.heap.size]?=some (.cells #[.int .i64 y.1,.int .i64 y.2,.int .i64 z.1,.int .i64 z.2] 82 (0,0)) from Bk.new wr.drew _);have RB:=kp (HRow.out.below ((brq wr).drew.alloc nlq (.cells #[.int .i64 y.1,.int .i64 y.2,.int .i64 z.1,.int .i64 z.2] 82)));have HOp:=kp (op_any hF DB.out.maker 6 0 (I8.of (by decide) (by decide)) v0_VI.1 2 (lies_two NB.out VY.out VZ.out) (Nat.le_succ 2));generalize opM F.c 6 0 [y,z] st'=pr at *;obtain ⟨pv,ps⟩:=pr;have hmbb:F.mb < w.heap.size+1:=by omega
    refine wp_region_held_drew (S:=fun W=>Keeps (onMb F) w W) (by kernel_rfl) (DR.out.drew.keeps) (fun hHeld=>?_);refine plz [0,1,2,3,4,5,6,7,8,9,10] ?_;iterate 11 (refine tnz (v:=?_) ?_ ?_;rotate_left;(focus first | ((intro w hSw;go_simp;try with_reducible rfl);done) | ((intro w hSw;(obtain ⟨⟨e0,e1⟩,e2,e3⟩:=HYr.out _ hSw;go_simp;try with_reducible rfl));done));try simp only [pt])
    refine pzz ?_;refine rd 11 fun K hK=>?_;go_simp;refine hK.out _ _ (DB.out.keeps) (fun hHeld=>?_);clear hK K;try simp only [pt]
    refine rd 12 fun K hK=>?_;go_simp;refine HOp.out.mono ?_;rintro e w7 ⟨rfl,hv,hk7,A7,c7,hm7,ht7⟩;have D7:=kp (DB.out.call hk7 hm7 ht7);have R7:=kp (RB.out.call hk7 ht7 hmbb);have VP:=kp hv;unfold valV;clear hv hk7 hm7 ht7;refine hK.out _ _ D7.out.keeps (fun hHeld=>?_);clear hK K;have D8:=kp (D7.out.alloc (.cells #[.int .i64 pv.1,.int .i64 pv.2] 82));have R8:=kp (R7.out.below ((brq w7).alloc nlq (.cells #[.int .i64 pv.1,.int .i64 pv.2] 82)));have N8:=kp (Bk.new w7 (.cells #[.int .i64 pv.1,.int .i64 pv.2] 82));subst hvl;refine rd 13 fun K hK=>?_;go_simp;refine hK.out _ _ (D8.out.keeps) (fun hHeld=>?_);clear hK K;try simp only [pt]
    refine rd 14 fun K hK=>?_;refine push_step (by rfl) (.tmp 18) (.tmp 31) (by rfl) (by rfl) R8.out (by rfl) N8.out VP.out (by omega) (by have:=D8.out.size;omega) (D8.out.fresh nlq) ?_;intro A9 c9 w9 hp9 hg9 _;have D9:=kp (D8.out.grown hF R8.out hg9 (Nat.lt_succ_self _));have R9:=kp hp9;clear hp9 hg9;refine hK.out _ _ D9.out.keeps (fun hHeld=>?_);clear hK K;simp only [Act.put];refine tk 15 (v:=?_) ?_ ?_;rotate_left
    ·(intro w hSw;go_simp;try with_reducible rfl)
    try simp only [pt]
    refine dnz ?_;go_wp2_with fail
    go_roundw
    case rel=>exact⟨_,_,_,⟨vs.length+1,by omega,by go_num,z.1,z.2,HZ.out,vs ++ [pv],by simp,ps,by rw [HRes.out];simp,A7,R9.out,c7,D9.out⟩,rfl,rfl,rfl⟩
    case measure=>simp [intOf];omega
   ·obtain rfl:k=r.length:=by omega
    replace HRes:=kp (show res=headM F.c 2 vs st' by rw [HRes.out,List.drop_length];simp [eqsM]);have HAnd:=kp (and_any hF DR.out.maker co hsh1 (HRow.out.valsS (F:=F) (by omega)) (by intro e;rw [e] at hvl;simp at hvl;omega) (by omega));rw [← HRes.out,hvl] at HAnd;go_wp2_with fail
    refine HAnd.out.mono ?_;rintro e w7 ⟨rfl,hv,hk7,A7,c7,hm7,ht7⟩;have D7:=kp (DR.out.call hk7 hm7 ht7);unfold valV;clear hk7 hm7 ht7;obtain ⟨r0,r1,rf⟩:=Bk.c2 D7.out.cell;go_wp2_with fail
    refine D7.out.ret (v:=res.1) hF Tryz.results146 ?_ ?_ hv <;> rfl
 ·replace HS:=kp (show res=(v0,st1) by rw [HS.out,if_pos he]);have he1:decide (st1.e=0)=false:=dfq he;rw [he1];obtain ⟨r0,r1,rf⟩:=Bk.c2 D2.out.cell;go_wp2_with fail
  rw [HS.out];refine D2.out.ret (v:=v0) hF Tryz.results146 ?_ ?_ v0_VI <;> rfl
def distR (c:Cx) (x:V) (r1 r:List V) (vs:List V) (st:St):V × St:=headM c 2 (vs ++ (neqsM c x r1 st).1 ++ (distinctL c r (neqsM c x r1 st).2).1) (distinctL c r (neqsM c x r1 st).2).2
theorem distinct_any {F:Fix} (hF:FixOk F) {w:World} {known:Int} {st:St} {At:Option Addr} {ct:Nat} (hm:Mk F w known st At ct) {L:Option Addr} {l:List V} (cl:Nat) (hcl:l.length<=cl) (hl:ValsS F w L l) (h2:2<=l.length) (hll:l.length<=1048576) :
  Calls Tryz.prog 147 #[.pointer (some ⟨F.mb,0,none⟩),.slice L l.length cl] w (MkPost F known w st.t At (distinctM F.c l st).1 (distinctM F.c l st).2):=by
 have h1:l≠[]:=by intro e;rw [e] at h2;simp at h2
 obtain ⟨bf,hbs,hbm⟩:∃ bf:Nat->Nat,(∀ k,bf (k+1)=bf k+l.length)/\(∀ k,k<=l.length->bf k<=2000000000000):=⟨fun k=>k * l.length,fun k=>Nat.succ_mul k _,fun k hk=>Nat.le_trans (Nat.mul_le_mul (Nat.le_trans hk hll) hll) (by decide)⟩;have HBs:=kp hbs;have HBm:=kp hbm;clear hbs hbm;have D1:=kp (Mid.new hm);have HAl:=kp (elike_any hF D1.out.maker cl (hl.on D1.out.keeps) h1 (by omega));have HS:=kp (show distinctM F.c l st=if(alikeS l st).e≠0 then(v0,alikeS l st) else headM F.c 2 (distinctL F.c l (alikeS l st)).1 (distinctL F.c l (alikeS l st)).2 from rfl);have HLv:=kp hl;have hlt:=hm.lt;clear hl hm h1;generalize distinctM F.c l st=res at *;generalize alikeS l st=st1 at *
 go_enter Tryz.func147,Tryz.ntmps147
 go_upto_region 1 with fail
 generalize w.alloc (.cells #[.int .i64 0,.int .i64 0] 82)=w1 at *;go_wp2_with fail
 refine HAl.out.mono ?_;rintro e w2 ⟨rfl,hk2,A2,c2,hm2,ht2⟩;have D2:=kp (D1.out.call hk2 hm2 ht2);clear hk2 hm2 ht2 HAl
 by_cases he:st1.e=0
 ·replace HS:=kp (show res=headM F.c 2 ([] ++ (distinctL F.c (l.drop 0) st1).1) (distinctL F.c (l.drop 0) st1).2 by rw [HS.out,if_neg (by simp [he])];rfl);have he1:decide (st1.e=0)=true:=decide_eq_true he;rw [he1];clear he he1;go_wp2_with fail
  go_loopw [5,17] (fun v' i' wr=>∃ (k:Nat),k<=l.length/\i'=.int .i64 k/\∃ (vs:List V),vs.length<=bf k/\(1<=k->1<=vs.length)/\∃ (st':St),res=headM F.c 2 (vs ++ (distinctL F.c (l.drop k) st').1) (distinctL F.c (l.drop k) st').2/\∃ (A':Option Addr),VRow (w.heap.size+1) st'.t A' wr v' vs/\∃ (c':Nat),Mid F known w st.t At w.heap.size wr st' A' c') (fun _ i' _=>l.length - (intOf i').toNat)
  case atStart=>exact⟨0,Nat.zero_le _,rfl,[],Nat.zero_le _,by omega,st1,HS.out,A2,VRow.nil _ _ _ _,c2,D2.out⟩
  case round =>
   obtain ⟨k,hk,rfl,vs,hvs,hvs0,st',hres,A',hrow,c',hmid⟩:=hrel;have HRes:=kp hres;have HRow:=kp hrow;have DR:=kp hmid;obtain ⟨Ao,co,rfl,hsh1,hsh2⟩:=hrow.shape;clear hres hrow hmid
   by_cases hkl:k < l.length
   ·have hlt2:(k:Int) < (l.length:Int):=by omega
    obtain ⟨x,hx⟩:∃ x,l[k]?=some x:=⟨_,gqe hkl⟩;have HX:=kp hx
    have HDr:=kp (show l.drop k=x :: l.drop (k+1) by
     rw [List.drop_eq_getElem_cons hkl];rw [gqe hkl] at hx;simp at hx;rw [hx])
    rw [HDr.out] at HRes;replace HRes:=kp (show res=distR F.c x ((l.drop (k+1)).drop 0) (l.drop (k+1)) vs st' by rw [HRes.out];unfold distR;rw [List.append_assoc];rfl);obtain ⟨b,o,rfl,_,e0,e1,hvx⟩:=val_get (HLv.out.on DR.out.keeps).now hx;have VX:=kp hvx;have hle:=hcl;have DA:=kp (DR.out.alloc (.cells #[.int .i64 x.1,.int .i64 x.2] 82));have XA:=kp (Bk.new wr (.cells #[.int .i64 x.1,.int .i64 x.2] 82));have RA:=kp (HRow.out.below ((brq wr).alloc nlq (.cells #[.int .i64 x.1,.int .i64 x.2] 82)));have HOx:=kp (show ∀ g,(Value.slice Ao vs.length co).ownBlock=some g->g≠wr.heap.size from fun g hg=>by have:=(HRow.out.own.lt g hg).2;omega);have hxb:w.heap.size<=wr.heap.size:=DR.out.keeps.size;clear hvx hx HDr HRow DR;go_upto_region 7 with fail
    generalize hwa:wr.alloc (.cells #[.int .i64 x.1,.int .i64 x.2] 82)=wa at *;clear hwa e0 e1;generalize hxm:wr.heap.size=xb at *;clear hxm;have hkw:IntKind.i64.wrap ((k:Int)+1)=(k:Int)+1:=IntWalk.i64_in _ (by omega);have hk0:0<=(k:Int)+1:=by omega
    have hkt:((k:Int)+1).toNat=k+1:=by omega
    have hks:(k:Int)+1<=(l.length:Int):=by omega
    have hkc:(k:Int)+1<=(cl:Int):=by omega
    generalize hr:l.drop (k+1)=r at *;have HR:=kp hr;have hrn:l.length - (k+1)=r.length:=by rw [← hr];simp
    clear hr;have hrl:r.length+k+1=l.length:=by omega
    by_cases hck:cl=k+1
    ·obtain rfl:r=[]:=List.length_eq_zero_iff.1 (by omega);replace HRes:=kp (show res=headM F.c 2 (vs ++ (distinctL F.c (l.drop (k+1)) st').1) (distinctL F.c (l.drop (k+1)) st').2 by rw [HRes.out,HR.out];simp [distR,neqsM]);have hln:l.length=k+1:=by simp at hrl;omega
     go_wp2_with fail
     go_loopw [5,27] (fun v' i' wr'=>v'=.slice Ao vs.length co/\i'=.int .i64 0/\wa=wr') (fun _ _ _=>0)
     case atStart=>exact⟨rfl,rfl,rfl⟩
     case round =>
      obtain ⟨rfl,rfl,rfl⟩:=hrel;have HRow:=RA;have DR:=DA;have hvs1':vs.length<=bf (k+1):=by rw [HBs.out k];omega
      have hvs2':1<=k+1->1<=vs.length:=by omega
      go_wp2_with fail
      go_roundw
      case rel=>exact⟨k+1,by omega,by go_num,vs,hvs1',hvs2',st',HRes.out,A',HRow.out,c',DR.out⟩
      case measure=>simp [intOf];omega
    ·have hck2:k+1 < cl:=by omega
     go_upto_region 8 with fail
     go_loopw [5,27] (fun v' i' wr'=>∃ (j:Nat),j<=r.length/\i'=.int .i64 j/\∃ (vs:List V),vs.length<=bf k+j/\(1<=k+j->1<=vs.length)/\∃ (st':St),res=distR F.c x (r.drop j) r vs st'/\∃ (A':Option Addr),VRow (w.heap.size+1) st'.t A' wr' v' vs/\(∀ g,v'.ownBlock=some g->g≠xb)/\wr'.heap[xb]?=some (.cells #[.int .i64 x.1,.int .i64 x.2] 82 (0,0))/\∃ (c':Nat),Mid F known w st.t At w.heap.size wr' st' A' c') (fun _ i' _=>r.length - (intOf i').toNat)
     case atStart=>exact⟨0,Nat.zero_le _,rfl,vs,by omega,by omega,st',HRes.out,A',RA.out,HOx.out,XA.out,c',DA.out⟩
     case round =>
      clear HRes RA HOx XA DA hvs hvs0 hsh1 hsh2;obtain ⟨j,hj,rfl,vs,hvs,hvs0,st',hres,A',hrow,hox,hxa,c',hmid⟩:=hrel;have HRes:=kp hres;have HRow:=kp hrow;have DR:=kp hmid;have HOx:=kp hox;have XR:=kp hxa;obtain ⟨Ao,co,rfl,hsh1,hsh2⟩:=hrow.shape;clear hres hrow hmid hox hxa
      by_cases hjl:j < r.length
      ·have hlt3:(j:Int) < (r.length:Int):=by omega
       obtain ⟨y,hy⟩:∃ y,r[j]?=some y:=⟨_,gqe hjl⟩
       have HDr:=kp (show r.drop j=y :: r.drop (j+1) by
        rw [List.drop_eq_getElem_cons hjl];rw [gqe hjl] at hy;simp at hy;rw [hy])
       rw [HDr.out] at HRes;replace HRes:=kp (show res=distR F.c x (r.drop (j+1)) r (vs ++ [(opM F.c 1 0 [(opM F.c 6 0 [x,y] st').1] (opM F.c 6 0 [x,y] st').2).1]) (opM F.c 1 0 [(opM F.c 6 0 [x,y] st').1] (opM F.c 6 0 [x,y] st').2).2 by rw [HRes.out];unfold distR;simp [neqsM]);obtain ⟨b2,o2,hA,_,e0,e1,hvy⟩:=val_get (HLv.out.on DR.out.keeps).now (k:=k+1+j) (v:=y) (by rw [← HR.out,List.getElem?_drop] at hy;exact hy);obtain ⟨rfl,rfl⟩:=aiq hA;rw [show o+(k+1+j) * 2=o+(k+1) * 2+j * 2 by omega] at e0 e1;have VY:=kp hvy;have DA:=kp (DR.out.alloc (.cells #[.int .i64 y.1,.int .i64 y.2] 82));have YA:=kp (Bk.new wr (.cells #[.int .i64 y.1,.int .i64 y.2] 82));have XA:=kp (Bk.keep XR.out (.cells #[.int .i64 y.1,.int .i64 y.2] 82));have RA:=kp (HRow.out.below ((brq wr).alloc nlq (.cells #[.int .i64 y.1,.int .i64 y.2] 82)));clear hvy hy HDr HRow DR XR;go_upto_region 10 with fail
       generalize hwa:wr.alloc (.cells #[.int .i64 y.1,.int .i64 y.2] 82)=wa at *;clear hwa e0 e1;have DB:=kp (DA.out.alloc (.cells #[.int .i64 x.1,.int .i64 x.2,.int .i64 y.1,.int .i64 y.2] 82));have NB:=kp (Bk.new wa (.cells #[.int .i64 x.1,.int .i64 x.2,.int .i64 y.1,.int .i64 y.2] 82));have XB:=kp (Bk.keep XA.out (.cells #[.int .i64 x.1,.int .i64 x.2,.int .i64 y.1,.int .i64 y.2] 82));have RB:=kp (RA.out.below ((brq wa).alloc nlq (.cells #[.int .i64 x.1,.int .i64 x.2,.int .i64 y.1,.int .i64 y.2] 82)));have HOp:=kp (op_any hF DB.out.maker 6 0 (I8.of (by decide) (by decide)) v0_VI.1 2 (lies_two NB.out VX.out VY.out) (Nat.le_succ 2));generalize opM F.c 6 0 [x,y] st'=pr at *;obtain ⟨pv,ps⟩:=pr;have hmbb:F.mb < w.heap.size+1:=by omega
       obtain ⟨x0,x1,xf⟩:=Bk.c2 XA.out;obtain ⟨y0,y1,yf⟩:=Bk.c2 YA.out;go_wp2_with fail
       refine HOp.out.mono ?_;rintro e w7 ⟨rfl,hv,hk7,A7,c7,hm7,ht7⟩;have D7:=kp (DB.out.call hk7 hm7 ht7);have R7:=kp (RB.out.call hk7 ht7 hmbb);have X7:=kp (DB.out.blk hk7 XB.out hxb);have VP:=kp hv;unfold valV;clear hv hk7 hm7 ht7 x0 x1 xf y0 y1 yf;have D8:=kp (D7.out.alloc (.cells #[.int .i64 pv.1,.int .i64 pv.2] 82));have R8:=kp (R7.out.below ((brq w7).alloc nlq (.cells #[.int .i64 pv.1,.int .i64 pv.2] 82)));have X8:=kp (Bk.keep X7.out (.cells #[.int .i64 pv.1,.int .i64 pv.2] 82));have N8:=kp (Bk.new w7 (.cells #[.int .i64 pv.1,.int .i64 pv.2] 82));have HNo:=kp (not_any hF D8.out.maker (l:=[pv]) 1 (fun W hW=>lies_one (D8.out.blk hW N8.out D7.out.keeps.size) VP.out) (by simp));generalize opM F.c 1 0 [pv] ps=qr at *;obtain ⟨qv,qs⟩:=qr;go_wp2_with fail
       refine HNo.out.mono ?_;rintro e w9 ⟨rfl,hv,hk7,A9,c9,hm7,ht7⟩;have D9:=kp (D8.out.call hk7 hm7 ht7);have R9:=kp (R8.out.call hk7 ht7 hmbb);have X9:=kp (D8.out.blk hk7 X8.out hxb);have VQ:=kp hv;unfold valV;clear hv hk7 hm7 ht7;have DT:=kp (D9.out.alloc (.cells #[.int .i64 qv.1,.int .i64 qv.2] 82));have RT:=kp (R9.out.below ((brq w9).alloc nlq (.cells #[.int .i64 qv.1,.int .i64 qv.2] 82)));have XT:=kp (Bk.keep X9.out (.cells #[.int .i64 qv.1,.int .i64 qv.2] 82));have NT:=kp (Bk.new w9 (.cells #[.int .i64 qv.1,.int .i64 qv.2] 82))
       go_wp2_with (at_builtin;refine push_val rfl (.tmp 31) (.tmp 40) rfl rfl RT.out rfl NT.out VQ.out (by have:=HBm.out k (by omega);omega) (by have:=DT.out.size;omega) (DT.out.fresh nlq) ?_)
       intro AT cT wt hpt hgt hat
       have HOt:=kp (show ∀ g,(Value.slice AT (vs.length+1) cT).ownBlock=some g->g≠xb from fun g hg=>by
        rcases hat g hg with h | h
        ·exact HOx.out g h
        ·subst h;have:=lt_of_block X9.out;omega)
       have XU:=kp ((hgt.block xb (lt_of_block XT.out) (fun e=>HOx.out xb e.symm rfl)).trans XT.out);have DU:=kp (DT.out.grown hF RT.out hgt (Nat.lt_succ_self _));have RU:=kp hpt;clear hpt hgt hat;go_wp2_with fail
       go_roundw
       case rel=>exact⟨j+1,by omega,by go_num,vs ++ [qv],by simp;omega,by simp,qs,HRes.out,A9,RU.out,HOt.out,XU.out,c9,DU.out⟩
       case measure=>simp [intOf];omega
      ·obtain rfl:j=r.length:=by omega
       replace HRes:=kp (show res=headM F.c 2 (vs ++ (distinctL F.c (l.drop (k+1)) st').1) (distinctL F.c (l.drop (k+1)) st').2 by rw [HRes.out,HR.out,List.drop_length];simp [distR,neqsM]);have hvs1':vs.length<=bf (k+1):=by rw [HBs.out k];omega
       have hvs2':1<=k+1->1<=vs.length:=by omega
       go_wp2_with fail
       go_roundw
       case rel=>exact⟨k+1,by omega,by go_num,vs,hvs1',hvs2',st',HRes.out,A',HRow.out,c',DR.out⟩
       case measure=>simp [intOf];omega
   ·obtain rfl:k=l.length:=by omega
    replace HRes:=kp (show res=headM F.c 2 vs st' by rw [HRes.out,List.drop_length];simp [distinctL]);have HAnd:=kp (and_any hF DR.out.maker co hsh1 (HRow.out.valsS (F:=F) (by omega)) (by intro e;have:=hvs0 (by omega);rw [e] at this;simp at this) (by have:=HBm.out _ nlq;omega));rw [← HRes.out] at HAnd;go_wp2_with fail
    refine HAnd.out.mono ?_;rintro e w7 ⟨rfl,hv,hk7,A7,c7,hm7,ht7⟩;have D7:=kp (DR.out.call hk7 hm7 ht7);unfold valV;clear hk7 hm7 ht7;obtain ⟨r0,r1,rf⟩:=Bk.c2 D7.out.cell;go_wp2_with fail
    refine D7.out.ret (v:=res.1) hF Tryz.results147 ?_ ?_ hv <;> rfl
 ·replace HS:=kp (show res=(v0,st1) by rw [HS.out,if_pos he]);have he1:decide (st1.e=0)=false:=dfq he;rw [he1];obtain ⟨r0,r1,rf⟩:=Bk.c2 D2.out.cell;go_wp2_with fail
  rw [HS.out];refine D2.out.ret (v:=v0) hF Tryz.results147 ?_ ?_ v0_VI <;> rfl
theorem way_cases {name:ByteArray} {k lo hi:Nat} (h:wayN name=some (k,lo,hi)):(k=0/\lo=1/\hi=1)\/((k=1\/k=2\/k=3\/k=4\/k=5\/k=6)/\lo=2/\hi=1048576)\/(k=7/\lo=3/\hi=3)\/((k=8\/k=9\/k=10\/k=11)/\lo=2/\hi=2):=by
 unfold wayN at h
 by_cases e0:name=sNot
 ·rw [if_pos e0] at h
  cases h
  exact .inl ⟨rfl,rfl,rfl⟩
 rw [if_neg e0] at h
 by_cases e1:name=sAnd
 ·rw [if_pos e1] at h
  cases h
  exact .inr (.inl ⟨.inl rfl,rfl,rfl⟩)
 rw [if_neg e1] at h
 by_cases e2:name=sOr
 ·rw [if_pos e2] at h
  cases h
  exact .inr (.inl ⟨.inr (.inl rfl),rfl,rfl⟩)
 rw [if_neg e2] at h
 by_cases e3:name=sXor
 ·rw [if_pos e3] at h
  cases h
  exact .inr (.inl ⟨.inr (.inr (.inl rfl)),rfl,rfl⟩)
 rw [if_neg e3] at h
 by_cases e4:name=sImp
 ·rw [if_pos e4] at h
  cases h
  exact .inr (.inl ⟨.inr (.inr (.inr (.inl rfl))),rfl,rfl⟩)
 rw [if_neg e4] at h
 by_cases e5:name=sEq
 ·rw [if_pos e5] at h
  cases h
  exact .inr (.inl ⟨.inr (.inr (.inr (.inr (.inl rfl)))),rfl,rfl⟩)
 rw [if_neg e5] at h
 by_cases e6:name=sDistinct
 ·rw [if_pos e6] at h
  cases h
  exact .inr (.inl ⟨.inr (.inr (.inr (.inr (.inr (rfl))))),rfl,rfl⟩)
 rw [if_neg e6] at h
 by_cases e7:name=sIte
 ·rw [if_pos e7] at h
  cases h
  exact .inr (.inr (.inl ⟨rfl,rfl,rfl⟩))
 rw [if_neg e7] at h
 by_cases e8:name=sLe
 ·rw [if_pos e8] at h
  cases h
  exact .inr (.inr (.inr ⟨.inl rfl,rfl,rfl⟩))
 rw [if_neg e8] at h
 by_cases e9:name=sLt
 ·rw [if_pos e9] at h
  cases h
  exact .inr (.inr (.inr ⟨.inr (.inl rfl),rfl,rfl⟩))
 rw [if_neg e9] at h
 by_cases e10:name=sGe
 ·rw [if_pos e10] at h
  cases h
  exact .inr (.inr (.inr ⟨.inr (.inr (.inl rfl)),rfl,rfl⟩))
 rw [if_neg e10] at h
 by_cases e11:name=sGt
 ·rw [if_pos e11] at h
  cases h
  exact .inr (.inr (.inr ⟨.inr (.inr (.inr (rfl))),rfl,rfl⟩))
 rw [if_neg e11] at h
 cases h
theorem make_any {F:Fix} (hF:FixOk F) {w:World} {known:Int} {st:St} {At:Option Addr} {ct:Nat} (hm:Mk F w known st At ct) {name:ByteArray} {k lo hi:Nat} (hw:wayN name=some (k,lo,hi)) {L:Option Addr} {l:List V} (h1:lo<=l.length) (h2:l.length<=hi) (cl:Nat) (hcl:l.length<=cl) (hl:ValsS F w L l) :
  Calls Tryz.prog (fnW k) #[.pointer (some ⟨F.mb,0,none⟩),.slice L l.length cl] w (MkPost F known w st.t At (makeM F.c k l st).1 (makeM F.c k l st).2):=by
 rcases way_cases hw with⟨rfl,rfl,rfl⟩ | ⟨hk,rfl,rfl⟩ | ⟨rfl,rfl,rfl⟩ | ⟨hk,rfl,rfl⟩
 ·exact not_any hF hm cl hl (by omega)
 ·have hne:l≠[]:=by intro e;rw [e] at h1;simp at h1
  rcases hk with rfl | rfl | rfl | rfl | rfl | rfl
  ·exact and_any hF hm cl hcl hl hne (by omega)
  ·exact or_any hF hm cl hcl hl hne (by omega)
  ·exact xor_any hF hm cl hcl hl hne (by omega)
  ·exact implies_any hF hm cl hl hne (by omega)
  ·exact equal_any hF hm cl hcl hl h1 (by omega)
  ·exact distinct_any hF hm cl hcl hl h1 h2
 ·exact ite_any hF hm cl hl (by omega)
 ·obtain ⟨x,y,rfl⟩:∃ x y,l=[x,y]:=by
   match l,h1,h2 with
   | [x,y],_,_=>exact⟨x,y,rfl⟩
  rcases hk with rfl | rfl | rfl | rfl
  ·exact le_any hF hm cl hl (by simp)
  ·exact lt_any hF hm cl hl (by simp)
  ·exact ge_any hF hm cl hl
  ·exact gt_any hF hm cl hl
theorem len_fullL:∀ l:List Sexp,l.length<=Sexp.fullL l
 | []=>Nat.zero_le _
 | x :: l=>by
  rw [Sexp.fullL_cons,List.length_cons];have:=len_fullL l;have:=full_pos x
  omega
theorem len_full (x:Sexp):x.l.length < x.full:=by
 rw [Sexp.full_eq];have:=len_fullL x.l
 omega
end El
end Go.Proofs.YtpmdcckapddchaaGreatDoor
