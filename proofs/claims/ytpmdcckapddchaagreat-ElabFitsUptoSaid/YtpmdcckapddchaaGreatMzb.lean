import Derived.Test.YtpmdcckapddchaaGreatShort
import Derived.Test.YtpmdcckapddchaaGreatMza
import Derived.Test.YtpmdcckapddchaaGreatMy
/- merged by wip/merge.py from: ElDist ElMake -/
set_option maxRecDepth 100000
set_option maxHeartbeats 51200000
namespace Go.Proofs.YtpmdcckapddchaaGreat
namespace El
open Go.RowKit Go.Maps Dt Sg
def distR (c:Cx) (x:V) (r1 r:List V) (vs:List V) (st:St):V × St:=headM c 2 (vs ++ (neqsM c x r1 st).1 ++ (distinctL c r (neqsM c x r1 st).2).1) (distinctL c r (neqsM c x r1 st).2).2
theorem distinct_any {F:Fix} (hF:FixOk F) {w:World} {known:Int} {st:St} {At:Option Addr} {ct:Nat} (hm:Mk F w known st At ct) {L:Option Addr} {l:List V} (cl:Nat) (hcl:l.length<=cl) (hl:ValsS F w L l) (h2:2<=l.length) (hll:l.length<=1048576) :
  Calls Tryz.prog 127 #[.pointer (some ⟨F.mb,0,none⟩),.slice L l.length cl] w (MkPost F known w st.t At (distinctM F.c l st).1 (distinctM F.c l st).2):=by
 have h1:l≠[]:=by intro e;rw [e] at h2;simp at h2
 obtain ⟨bf,hbs,hbm⟩:∃ bf:Nat->Nat,(∀ k,bf (k+1)=bf k+l.length)/\(∀ k,k<=l.length->bf k<=2000000000000):=⟨fun k=>k * l.length,fun k=>Nat.succ_mul k _,fun k hk=>Nat.le_trans (Nat.mul_le_mul (Nat.le_trans hk hll) hll) (by decide)⟩;have HBs:=kp hbs;have HBm:=kp hbm;clear hbs hbm;have D1:=kp (Mid.new hm);have HAl:=kp (elike_any hF D1.out.maker cl (hl.on D1.out.keeps) h1 (by omega));have HS:=kp (show distinctM F.c l st=if(alikeS l st).e≠0 then(v0,alikeS l st) else headM F.c 2 (distinctL F.c l (alikeS l st)).1 (distinctL F.c l (alikeS l st)).2 from rfl);have HLv:=kp hl;have hlt:=hm.lt;clear hl hm h1;generalize distinctM F.c l st=res at *;generalize alikeS l st=st1 at *
 go_enter Tryz.func127,Tryz.ntmps127
 go_upto_region 1 with fail
 generalize w.alloc (.cells #[.int .i64 0,.int .i64 0] 69)=w1 at *;go_wp2_with fail
 refine HAl.out.mono ?_;rintro e w2 ⟨rfl,hk2,A2,c2,hm2,ht2⟩;have D2:=kp (D1.out.call hk2 hm2 ht2);clear hk2 hm2 ht2 HAl
 by_cases he:st1.e=0
 ·replace HS:=kp (show res=headM F.c 2 ([] ++ (distinctL F.c (l.drop 0) st1).1) (distinctL F.c (l.drop 0) st1).2 by rw [HS.out,if_neg (by simp [he])];rfl);have he1:decide (st1.e=0)=true:=decide_eq_true he;rw [he1];clear he he1;go_wp2_with fail
  go_loopw [5,17] (fun v' i' wr=>∃ (k:Nat),k<=l.length/\i'=.int .i64 k/\∃ (vs:List V),vs.length<=bf k/\(1<=k->1<=vs.length)/\∃ (st':St),res=headM F.c 2 (vs ++ (distinctL F.c (l.drop k) st').1) (distinctL F.c (l.drop k) st').2/\∃ (A':Option Addr),VRow (w.heap.size+1) st'.t A' wr v' vs/\∃ (c':Nat),Mid F known w st.t At w.heap.size wr st' A' c') (fun _ i' _=>l.length - (intOf i').toNat)
  case atStart=>exact⟨0,Nat.zero_le _,rfl,[],Nat.zero_le _,by omega,st1,HS.out,A2,VRow.nil _ _ _ _,c2,D2.out⟩
  case round =>
   obtain ⟨k,hk,rfl,vs,hvs,hvs0,st',hres,A',hrow,c',hmid⟩:=hrel;have HRes:=kp hres;have HRow:=kp hrow;have DR:=kp hmid;obtain ⟨Ao,co,rfl,hsh1,hsh2⟩:=hrow.shape;clear hres hrow hmid
   by_cases hkl:k < l.length
   ·have hlt2:(k:Int) < (l.length:Int):=by omega
    obtain ⟨x,hx⟩:∃ x,l[k]?=some x:=⟨_,gqe hkl⟩;have HX:=kp hx
    have HDr:=kp (show l.drop k=x :: l.drop (k+1) by
     rw [List.drop_eq_getElem_cons hkl];rw [gqe hkl] at hx;simp at hx;rw [hx])
    rw [HDr.out] at HRes;replace HRes:=kp (show res=distR F.c x ((l.drop (k+1)).drop 0) (l.drop (k+1)) vs st' by rw [HRes.out];unfold distR;rw [List.append_assoc];rfl);obtain ⟨b,o,rfl,_,e0,e1,hvx⟩:=val_get (HLv.out.on DR.out.keeps).now hx;have VX:=kp hvx;have hle:=hcl;have DA:=kp (DR.out.alloc (.cells #[.int .i64 x.1,.int .i64 x.2] 69));have XA:=kp (Bk.new wr (.cells #[.int .i64 x.1,.int .i64 x.2] 69));have RA:=kp (HRow.out.below ((brq wr).alloc nlq (.cells #[.int .i64 x.1,.int .i64 x.2] 69)));have HOx:=kp (show ∀ g,(Value.slice Ao vs.length co).ownBlock=some g->g≠wr.heap.size from fun g hg=>by have:=(HRow.out.own.lt g hg).2;omega);have hxb:w.heap.size<=wr.heap.size:=DR.out.keeps.size;clear hvx hx HDr HRow DR;go_upto_region 7 with fail
    generalize hwa:wr.alloc (.cells #[.int .i64 x.1,.int .i64 x.2] 69)=wa at *;clear hwa e0 e1;generalize hxm:wr.heap.size=xb at *;clear hxm;have hkw:IntKind.i64.wrap ((k:Int)+1)=(k:Int)+1:=IntWalk.i64_in _ (by omega);have hk0:0<=(k:Int)+1:=by omega
    have hkt:((k:Int)+1).toNat=k+1:=by omega
    have hks:(k:Int)+1<=(l.length:Int):=by omega
    have hkc:(k:Int)+1<=(cl:Int):=by omega
    generalize hr:l.drop (k+1)=r at *;have HR:=kp hr;have hrn:l.length - (k+1)=r.length:=by rw [← hr];simp
    clear hr;have hrl:r.length+k+1=l.length:=by omega
    by_cases hck:cl=k+1
    ·obtain rfl:r=[]:=List.length_eq_zero_iff.1 (by omega);replace HRes:=kp (show res=headM F.c 2 (vs ++ (distinctL F.c (l.drop (k+1)) st').1) (distinctL F.c (l.drop (k+1)) st').2 by rw [HRes.out,HR.out];simp [distR,neqsM]);have hln:l.length=k+1:=by simp at hrl;omega
     go_wp2_with fail
     go_loopw [5,27] (fun v' i' wr'=>v'=.slice Ao vs.length co/\i'=.int .i64 0/\wa=wr') (fun _ _ _=>0)
     case atStart=>exact⟨rfl,rfl,rfl⟩
     case round =>
      obtain ⟨rfl,rfl,rfl⟩:=hrel;have HRow:=RA;have DR:=DA;have hvs1':vs.length<=bf (k+1):=by rw [HBs.out k];omega
      have hvs2':1<=k+1->1<=vs.length:=by omega
      go_wp2_with fail
      go_roundw
      case rel=>exact⟨k+1,by omega,by go_num,vs,hvs1',hvs2',st',HRes.out,A',HRow.out,c',DR.out⟩
      case measure=>simp [intOf];omega
    ·have hck2:k+1 < cl:=by omega
     go_upto_region 8 with fail
     go_loopw [5,27] (fun v' i' wr'=>∃ (j:Nat),j<=r.length/\i'=.int .i64 j/\∃ (vs:List V),vs.length<=bf k+j/\(1<=k+j->1<=vs.length)/\∃ (st':St),res=distR F.c x (r.drop j) r vs st'/\∃ (A':Option Addr),VRow (w.heap.size+1) st'.t A' wr' v' vs/\(∀ g,v'.ownBlock=some g->g≠xb)/\wr'.heap[xb]?=some (.cells #[.int .i64 x.1,.int .i64 x.2] 69 (0,0))/\∃ (c':Nat),Mid F known w st.t At w.heap.size wr' st' A' c') (fun _ i' _=>r.length - (intOf i').toNat)
     case atStart=>exact⟨0,Nat.zero_le _,rfl,vs,by omega,by omega,st',HRes.out,A',RA.out,HOx.out,XA.out,c',DA.out⟩
     case round =>
      clear HRes RA HOx XA DA hvs hvs0 hsh1 hsh2;obtain ⟨j,hj,rfl,vs,hvs,hvs0,st',hres,A',hrow,hox,hxa,c',hmid⟩:=hrel;have HRes:=kp hres;have HRow:=kp hrow;have DR:=kp hmid;have HOx:=kp hox;have XR:=kp hxa;obtain ⟨Ao,co,rfl,hsh1,hsh2⟩:=hrow.shape;clear hres hrow hmid hox hxa
      by_cases hjl:j < r.length
      ·have hlt3:(j:Int) < (r.length:Int):=by omega
       obtain ⟨y,hy⟩:∃ y,r[j]?=some y:=⟨_,gqe hjl⟩
       have HDr:=kp (show r.drop j=y :: r.drop (j+1) by
        rw [List.drop_eq_getElem_cons hjl];rw [gqe hjl] at hy;simp at hy;rw [hy])
       rw [HDr.out] at HRes;replace HRes:=kp (show res=distR F.c x (r.drop (j+1)) r (vs ++ [(opM F.c 1 0 [(opM F.c 6 0 [x,y] st').1] (opM F.c 6 0 [x,y] st').2).1]) (opM F.c 1 0 [(opM F.c 6 0 [x,y] st').1] (opM F.c 6 0 [x,y] st').2).2 by rw [HRes.out];unfold distR;simp [neqsM]);obtain ⟨b2,o2,hA,_,e0,e1,hvy⟩:=val_get (HLv.out.on DR.out.keeps).now (k:=k+1+j) (v:=y) (by rw [← HR.out,List.getElem?_drop] at hy;exact hy);obtain ⟨rfl,rfl⟩:=aiq hA;rw [show o+(k+1+j) * 2=o+(k+1) * 2+j * 2 by omega] at e0 e1;have VY:=kp hvy;have DA:=kp (DR.out.alloc (.cells #[.int .i64 y.1,.int .i64 y.2] 69));have YA:=kp (Bk.new wr (.cells #[.int .i64 y.1,.int .i64 y.2] 69));have XA:=kp (Bk.keep XR.out (.cells #[.int .i64 y.1,.int .i64 y.2] 69));have RA:=kp (HRow.out.below ((brq wr).alloc nlq (.cells #[.int .i64 y.1,.int .i64 y.2] 69)));clear hvy hy HDr HRow DR XR;go_upto_region 10 with fail
       generalize hwa:wr.alloc (.cells #[.int .i64 y.1,.int .i64 y.2] 69)=wa at *;clear hwa e0 e1;have DB:=kp (DA.out.alloc (.cells #[.int .i64 x.1,.int .i64 x.2,.int .i64 y.1,.int .i64 y.2] 69));have NB:=kp (Bk.new wa (.cells #[.int .i64 x.1,.int .i64 x.2,.int .i64 y.1,.int .i64 y.2] 69));have XB:=kp (Bk.keep XA.out (.cells #[.int .i64 x.1,.int .i64 x.2,.int .i64 y.1,.int .i64 y.2] 69));have RB:=kp (RA.out.below ((brq wa).alloc nlq (.cells #[.int .i64 x.1,.int .i64 x.2,.int .i64 y.1,.int .i64 y.2] 69)));have HOp:=kp (op_any hF DB.out.maker 6 0 (I8.of (by decide) (by decide)) v0_VI.1 2 (lies_two NB.out VX.out VY.out) (Nat.le_succ 2));generalize opM F.c 6 0 [x,y] st'=pr at *;obtain ⟨pv,ps⟩:=pr;have hmbb:F.mb < w.heap.size+1:=by omega
       obtain ⟨x0,x1,xf⟩:=Bk.c2 XA.out;obtain ⟨y0,y1,yf⟩:=Bk.c2 YA.out;go_wp2_with fail
       refine HOp.out.mono ?_;rintro e w7 ⟨rfl,hv,hk7,A7,c7,hm7,ht7⟩;have D7:=kp (DB.out.call hk7 hm7 ht7);have R7:=kp (RB.out.call hk7 ht7 hmbb);have X7:=kp (DB.out.blk hk7 XB.out hxb);have VP:=kp hv;unfold valV;clear hv hk7 hm7 ht7 x0 x1 xf y0 y1 yf;have D8:=kp (D7.out.alloc (.cells #[.int .i64 pv.1,.int .i64 pv.2] 69));have R8:=kp (R7.out.below ((brq w7).alloc nlq (.cells #[.int .i64 pv.1,.int .i64 pv.2] 69)));have X8:=kp (Bk.keep X7.out (.cells #[.int .i64 pv.1,.int .i64 pv.2] 69));have N8:=kp (Bk.new w7 (.cells #[.int .i64 pv.1,.int .i64 pv.2] 69));have HNo:=kp (not_any hF D8.out.maker (l:=[pv]) 1 (fun W hW=>lies_one (D8.out.blk hW N8.out D7.out.keeps.size) VP.out) (by simp));generalize opM F.c 1 0 [pv] ps=qr at *;obtain ⟨qv,qs⟩:=qr;go_wp2_with fail
       refine HNo.out.mono ?_;rintro e w9 ⟨rfl,hv,hk7,A9,c9,hm7,ht7⟩;have D9:=kp (D8.out.call hk7 hm7 ht7);have R9:=kp (R8.out.call hk7 ht7 hmbb);have X9:=kp (D8.out.blk hk7 X8.out hxb);have VQ:=kp hv;unfold valV;clear hv hk7 hm7 ht7;have DT:=kp (D9.out.alloc (.cells #[.int .i64 qv.1,.int .i64 qv.2] 69));have RT:=kp (R9.out.below ((brq w9).alloc nlq (.cells #[.int .i64 qv.1,.int .i64 qv.2] 69)));have XT:=kp (Bk.keep X9.out (.cells #[.int .i64 qv.1,.int .i64 qv.2] 69));have NT:=kp (Bk.new w9 (.cells #[.int .i64 qv.1,.int .i64 qv.2] 69))
       go_wp2_with (at_builtin;refine push_val rfl (.tmp 31) (.tmp 40) rfl rfl RT.out rfl NT.out VQ.out (by have:=HBm.out k (by omega);omega) (by have:=DT.out.size;omega) (DT.out.fresh nlq) ?_)
       intro AT cT wt hpt hgt hat
       have HOt:=kp (show ∀ g,(Value.slice AT (vs.length+1) cT).ownBlock=some g->g≠xb from fun g hg=>by
        rcases hat g hg with h | h
        ·exact HOx.out g h
        ·subst h;have:=lt_of_block X9.out;omega)
       have XU:=kp ((hgt.block xb (lt_of_block XT.out) (fun e=>HOx.out xb e.symm rfl)).trans XT.out);have DU:=kp (DT.out.grown hF RT.out hgt (Nat.lt_succ_self _));have RU:=kp hpt;clear hpt hgt hat;go_wp2_with fail
       go_roundw
       case rel=>exact⟨j+1,by omega,by go_num,vs ++ [qv],by simp;omega,by simp,qs,HRes.out,A9,RU.out,HOt.out,XU.out,c9,DU.out⟩
       case measure=>simp [intOf];omega
      ·obtain rfl:j=r.length:=by omega
       replace HRes:=kp (show res=headM F.c 2 (vs ++ (distinctL F.c (l.drop (k+1)) st').1) (distinctL F.c (l.drop (k+1)) st').2 by rw [HRes.out,HR.out,List.drop_length];simp [distR,neqsM]);have hvs1':vs.length<=bf (k+1):=by rw [HBs.out k];omega
       have hvs2':1<=k+1->1<=vs.length:=by omega
       go_wp2_with fail
       go_roundw
       case rel=>exact⟨k+1,by omega,by go_num,vs,hvs1',hvs2',st',HRes.out,A',HRow.out,c',DR.out⟩
       case measure=>simp [intOf];omega
   ·obtain rfl:k=l.length:=by omega
    replace HRes:=kp (show res=headM F.c 2 vs st' by rw [HRes.out,List.drop_length];simp [distinctL]);have HAnd:=kp (and_any hF DR.out.maker co hsh1 (HRow.out.valsS (F:=F) (by omega)) (by intro e;have:=hvs0 (by omega);rw [e] at this;simp at this) (by have:=HBm.out _ nlq;omega));rw [← HRes.out] at HAnd;go_wp2_with fail
    refine HAnd.out.mono ?_;rintro e w7 ⟨rfl,hv,hk7,A7,c7,hm7,ht7⟩;have D7:=kp (DR.out.call hk7 hm7 ht7);unfold valV;clear hk7 hm7 ht7;obtain ⟨r0,r1,rf⟩:=Bk.c2 D7.out.cell;go_wp2_with fail
    refine D7.out.ret (v:=res.1) hF Tryz.results127 ?_ ?_ hv <;> rfl
 ·replace HS:=kp (show res=(v0,st1) by rw [HS.out,if_pos he]);have he1:decide (st1.e=0)=false:=dfq he;rw [he1];obtain ⟨r0,r1,rf⟩:=Bk.c2 D2.out.cell;go_wp2_with fail
  rw [HS.out];refine D2.out.ret (v:=v0) hF Tryz.results127 ?_ ?_ v0_VI <;> rfl
theorem way_cases {name:ByteArray} {k lo hi:Nat} (h:wayN name=some (k,lo,hi)):(k=0/\lo=1/\hi=1)\/((k=1\/k=2\/k=3\/k=4\/k=5\/k=6)/\lo=2/\hi=1048576)\/(k=7/\lo=3/\hi=3)\/((k=8\/k=9\/k=10\/k=11)/\lo=2/\hi=2):=by
 unfold wayN at h
 by_cases e0:name=sNot
 ·rw [if_pos e0] at h
  cases h
  exact .inl ⟨rfl,rfl,rfl⟩
 rw [if_neg e0] at h
 by_cases e1:name=sAnd
 ·rw [if_pos e1] at h
  cases h
  exact .inr (.inl ⟨.inl rfl,rfl,rfl⟩)
 rw [if_neg e1] at h
 by_cases e2:name=sOr
 ·rw [if_pos e2] at h
  cases h
  exact .inr (.inl ⟨.inr (.inl rfl),rfl,rfl⟩)
 rw [if_neg e2] at h
 by_cases e3:name=sXor
 ·rw [if_pos e3] at h
  cases h
  exact .inr (.inl ⟨.inr (.inr (.inl rfl)),rfl,rfl⟩)
 rw [if_neg e3] at h
 by_cases e4:name=sImp
 ·rw [if_pos e4] at h
  cases h
  exact .inr (.inl ⟨.inr (.inr (.inr (.inl rfl))),rfl,rfl⟩)
 rw [if_neg e4] at h
 by_cases e5:name=sEq
 ·rw [if_pos e5] at h
  cases h
  exact .inr (.inl ⟨.inr (.inr (.inr (.inr (.inl rfl)))),rfl,rfl⟩)
 rw [if_neg e5] at h
 by_cases e6:name=sDistinct
 ·rw [if_pos e6] at h
  cases h
  exact .inr (.inl ⟨.inr (.inr (.inr (.inr (.inr (rfl))))),rfl,rfl⟩)
 rw [if_neg e6] at h
 by_cases e7:name=sIte
 ·rw [if_pos e7] at h
  cases h
  exact .inr (.inr (.inl ⟨rfl,rfl,rfl⟩))
 rw [if_neg e7] at h
 by_cases e8:name=sLe
 ·rw [if_pos e8] at h
  cases h
  exact .inr (.inr (.inr ⟨.inl rfl,rfl,rfl⟩))
 rw [if_neg e8] at h
 by_cases e9:name=sLt
 ·rw [if_pos e9] at h
  cases h
  exact .inr (.inr (.inr ⟨.inr (.inl rfl),rfl,rfl⟩))
 rw [if_neg e9] at h
 by_cases e10:name=sGe
 ·rw [if_pos e10] at h
  cases h
  exact .inr (.inr (.inr ⟨.inr (.inr (.inl rfl)),rfl,rfl⟩))
 rw [if_neg e10] at h
 by_cases e11:name=sGt
 ·rw [if_pos e11] at h
  cases h
  exact .inr (.inr (.inr ⟨.inr (.inr (.inr (rfl))),rfl,rfl⟩))
 rw [if_neg e11] at h
 cases h
theorem make_any {F:Fix} (hF:FixOk F) {w:World} {known:Int} {st:St} {At:Option Addr} {ct:Nat} (hm:Mk F w known st At ct) {name:ByteArray} {k lo hi:Nat} (hw:wayN name=some (k,lo,hi)) {L:Option Addr} {l:List V} (h1:lo<=l.length) (h2:l.length<=hi) (cl:Nat) (hcl:l.length<=cl) (hl:ValsS F w L l) :
  Calls Tryz.prog (fnW k) #[.pointer (some ⟨F.mb,0,none⟩),.slice L l.length cl] w (MkPost F known w st.t At (makeM F.c k l st).1 (makeM F.c k l st).2):=by
 rcases way_cases hw with⟨rfl,rfl,rfl⟩ | ⟨hk,rfl,rfl⟩ | ⟨rfl,rfl,rfl⟩ | ⟨hk,rfl,rfl⟩
 ·exact not_any hF hm cl hl (by omega)
 ·have hne:l≠[]:=by intro e;rw [e] at h1;simp at h1
  rcases hk with rfl | rfl | rfl | rfl | rfl | rfl
  ·exact and_any hF hm cl hcl hl hne (by omega)
  ·exact or_any hF hm cl hcl hl hne (by omega)
  ·exact xor_any hF hm cl hcl hl hne (by omega)
  ·exact implies_any hF hm cl hl hne (by omega)
  ·exact equal_any hF hm cl hcl hl h1 (by omega)
  ·exact distinct_any hF hm cl hcl hl h1 h2
 ·exact ite_any hF hm cl hl (by omega)
 ·obtain ⟨x,y,rfl⟩:∃ x y,l=[x,y]:=by
   match l,h1,h2 with
   | [x,y],_,_=>exact⟨x,y,rfl⟩
  rcases hk with rfl | rfl | rfl | rfl
  ·exact le_any hF hm cl hl (by simp)
  ·exact lt_any hF hm cl hl (by simp)
  ·exact ge_any hF hm cl hl
  ·exact gt_any hF hm cl hl
theorem len_fullL:∀ l:List Sexp,l.length<=Sexp.fullL l
 | []=>Nat.zero_le _
 | x :: l=>by
  rw [Sexp.fullL_cons,List.length_cons];have:=len_fullL l;have:=full_pos x
  omega
theorem len_full (x:Sexp):x.l.length < x.full:=by
 rw [Sexp.full_eq];have:=len_fullL x.l
 omega
end El
end Go.Proofs.YtpmdcckapddchaaGreat
