import Derived.Test.YtpmdcckapddchaaGreatDoorShort
import Derived.Test.YtpmdcckapddchaaGreatDoorMt
import Derived.Test.YtpmdcckapddchaaGreatDoorMs
import Derived.Test.YtpmdcckapddchaaGreatDoorMd
import Derived.Test.YtpmdcckapddchaaGreatDoorMb
import Derived.Test.YtpmdcckapddchaaGreatDoorMh
import Derived.Test.YtpmdcckapddchaaGreatDoorMg
import Derived.Test.YtpmdcckapddchaaGreatDoorMc
/- merged by wip/merge.py from: TyTable ElMk ElEnv ElPut ElNumM ElTop ElSorts ElSorts2 ElWake RTySort -/
set_option maxRecDepth 100000
set_option maxHeartbeats 51200000
namespace Go.Proofs.YtpmdcckapddchaaGreatDoor
namespace El
open Go.RowKit Dt Sg
def sortedN (g:Sig) (t:List Node) (n:Node):Bool:=decide ((sortProg g t n).2=0) && decide ((sortProg g t n).1=n.sort)
def sortedB (g:Sig) (t:List Node):Bool:=t.all fun n=>sortedN g t n
def tableE (g:Sig) (t:List Node):Int:=if checkE g≠0\/checkTE t≠0 then 2 else if sortedB g t then 0 else 33
theorem sortedB_stop {g:Sig} {t:List Node} {k:Nat} {n:Node} (hn:t[k]?=some n) (h:sortedN g t n=false):sortedB g t=false:=by
 unfold sortedB;rw [List.all_eq_false];exact⟨n,mgq hn,by rw [h];simp⟩
theorem sortedB_all {g:Sig} {t:List Node} (h:∀ k n,k < t.length->t[k]?=some n->sortedN g t n=true):sortedB g t=true:=by
 unfold sortedB;rw [List.all_eq_true];intro x hx;obtain ⟨k,hk⟩:=List.getElem?_of_mem hx;exact h k x (gqs hk).1 hk
theorem check_stands {t:List Node} (h:checkTE t=0) {k:Nat} {n:Node} (hn:t[k]?=some n):standsN n k=true:=by
 unfold checkTE at h
 split at h
 ·rename_i hc
  unfold checkT at hc;simp only [Bool.and_eq_true] at hc;have h2:=hc.1.2;unfold standsTo at h2;rw [List.all_eq_true] at h2;have:=h2 k (List.mem_range.2 (gqs hn).1)
  rwa [hn] at this
 ·cases h
theorem tytable_any {w:World} {A1 A2 A3:Option Addr} {c1 c2 c3:Nat} {g:Sig} (h:SigAt w A1 c1 A2 c2 A3 c3 g) (hl1:g.sorts.length<=1000000) (hl2:g.funs.length<=1000000) (hl3:g.macros.length<=1000000) {A:Option Addr} {t:List Node} {c:Nat} (ht:Lies 8 NodeR w A t) (hn:t.length<=1000000) (hc:t.length<=c) (hcm:c<=maxLen) :
  Calls Tryz.prog 19 #[.agg #[.slice A1 g.sorts.length c1,.slice A2 g.funs.length c2,.slice A3 g.macros.length c3],.agg #[.slice A t.length c]] w fun e w'=>e=.returned (.int .i64 (tableE g t))/\Below w.heap.size w w':=by
 have HE:=kp (show tableE g t=if checkE g≠0\/checkTE t≠0 then 2 else if sortedB g t then 0 else 33 from rfl);have HT:=kp ht;have HS:=kp h;have HCs:=kp (fun W (hW:Below w.heap.size w W)=>check_any (h.on hW) (by omega) (by omega) (by omega));have HCt:=kp (fun W (hW:Below w.heap.size w W)=>tcheck_any (ht.on NodeR.lasts hW) hn hc hcm);have HSt:=kp (fun(hz:checkTE t=0) k n hk=>check_stands hz (k:=k) (n:=n) hk);have HSo:=kp (fun(hg:checkE g=0) W (hW:Below w.heap.size w W) n (hi:NodeI n) (a:Int) (hs:standsN n a=true) (ha:a<=t.length)=>tysort_any (h.on hW) hg hl1 hl2 hl3 c (ht.on NodeR.lasts hW) hi hs ha);have S1:=kp (Bk.keep (Bk.new w (.cells #[.slice A1 g.sorts.length c1,.slice A2 g.funs.length c2,.slice A3 g.macros.length c3] 26)) (.cells #[.slice A t.length c] 29));have T1:=kp (Bk.new (w.alloc (.cells #[.slice A1 g.sorts.length c1,.slice A2 g.funs.length c2,.slice A3 g.macros.length c3] 26)) (.cells #[.slice A t.length c] 29));rw [show(w.alloc (.cells #[.slice A1 g.sorts.length c1,.slice A2 g.funs.length c2,.slice A3 g.macros.length c3] 26)).heap.size=w.heap.size+1 by simp] at T1;have B1:=kp (((brq w).alloc nlq (.cells #[.slice A1 g.sorts.length c1,.slice A2 g.funs.length c2,.slice A3 g.macros.length c3] 26)).alloc (by simp) (.cells #[.slice A t.length c] 29));have Z1:=kp (show w.heap.size+2<=((w.alloc (.cells #[.slice A1 g.sorts.length c1,.slice A2 g.funs.length c2,.slice A3 g.macros.length c3] 26)).alloc (.cells #[.slice A t.length c] 29)).heap.size by simp)
 clear h ht;generalize tableE g t=res at *;have HAll:=kp (fun h=>sortedB_all (g:=g) (t:=t) h);have HStop:=kp (fun k n hn h=>sortedB_stop (g:=g) (t:=t) (k:=k) (n:=n) hn h);generalize sortedB g t=sb at *
 go_enter Tryz.func19,Tryz.ntmps19
 go_upto_region 1 with fail
 generalize (w.alloc (.cells #[.slice A1 g.sorts.length c1,.slice A2 g.funs.length c2,.slice A3 g.macros.length c3] 26)).alloc (.cells #[.slice A t.length c] 29)=w1 at *;obtain ⟨s0,s1,s2,sf⟩:=Bk.c3 S1.out;go_wp2_with fail
 refine(HCs.out w1 B1.out).mono ?_;rintro e w2 ⟨rfl,hb2⟩;have B2:=kp (B1.out.trans (hb2.mono B1.out.size));have S2:=kp (Bk.on S1.out hb2);have T2:=kp (Bk.on T1.out hb2);have Z2:=kp (Nat.le_trans Z1.out hb2.size);clear hb2 s0 s1 s2 sf S1 T1 Z1;generalize checkE g=cg at *
 by_cases hg:cg=0
 ·have hg':(cg != 0)=false:=by simp [hg]
  have HG:=kp hg;clear hg;obtain ⟨t0,tf⟩:=Bk.c1 T2.out;go_wp2_with fail
  refine(HCt.out w2 B2.out).mono ?_;rintro e w3 ⟨rfl,hb3⟩;have B3:=kp (B2.out.trans (hb3.mono B2.out.size));have S3:=kp (Bk.on S2.out hb3);have T3:=kp (Bk.on T2.out hb3);have Z3:=kp (Nat.le_trans Z2.out hb3.size);clear hb3 t0 tf S2 T2 Z2;generalize checkTE t=ct at *
  by_cases hct:ct=0
  ·have hct':(ct != 0)=false:=by simp [hct]
   replace HE:=kp (HE.out.trans (if_neg (by rw [HG.out,hct];simp)));have HSt2:=kp (HSt.out hct);clear hct HSt;obtain ⟨t0,tf⟩:=Bk.c1 T3.out;go_wp2_with fail
   go_loopw [20] (fun i' wr=>∃ k:Nat,k<=t.length/\i'=.int .i64 k/\Below (w.heap.size+2) w3 wr/\∀ j n,j < k->t[j]?=some n->sortedN g t n=true) (fun i' _=>t.length - (intOf i').toNat)
   case atStart=>exact⟨0,Nat.zero_le _,rfl,Below.refl _ _,fun j n hj=>by omega⟩
   case round =>
    obtain ⟨k,hk,rfl,hb,hto⟩:=hrel;have HTo:=kp hto;have HB:=kp hb;have HBw:=kp (B3.out.trans (hb.mono (by omega)));have SR:=kp (Bk.on' S3.out hb (by omega));have TR:=kp (Bk.on' T3.out hb (by omega));clear hb t0 tf hto
    by_cases hlt:k < t.length
    ·have hlt2:(k:Int) < (t.length:Int):=by omega
     obtain ⟨n,hn2⟩:∃ n,t[k]?=some n:=⟨_,gqe hlt⟩;obtain ⟨b,o,hA,hxa,hxi⟩:=node_get (HT.out.on NodeR.lasts HBw.out) hn2;subst hA;have HX:=kp hxa;have HSn:=kp (HSt2.out k n hn2);have HI:=kp hxi
     have HTk:=kp (show sortedN g t n=true->∀ j m,j < k+1->t[j]?=some m->sortedN g t m=true from fun he j m hj hm=>by
      by_cases h:j < k
      ·exact HTo.out j m h hm
      ·obtain rfl:j=k:=by omega
       rw [hn2] at hm;cases hm;exact he)
     have HNk:=kp (fun hf=>HStop.out k n hn2 hf);obtain ⟨_,x0,x1,x2,x3,x4,x5,x6,x7⟩:=hxa;have NB:=kp (Bk.new wr (.cells #[.int .i8 n.op,.int .i8 n.len,.int .i64 n.a0,.int .i64 n.a1,.int .i64 n.a2,.int .i64 n.sort,.int .i64 n.fn,.int .i64 n.n] 49));have SB:=kp (Bk.keep SR.out (.cells #[.int .i8 n.op,.int .i8 n.len,.int .i64 n.a0,.int .i64 n.a1,.int .i64 n.a2,.int .i64 n.sort,.int .i64 n.fn,.int .i64 n.n] 49));have TB:=kp (Bk.keep TR.out (.cells #[.int .i8 n.op,.int .i8 n.len,.int .i64 n.a0,.int .i64 n.a1,.int .i64 n.a2,.int .i64 n.sort,.int .i64 n.fn,.int .i64 n.n] 49));have HBn:=kp (HB.out.alloc (by have:=Z3.out;have:=HB.out.size;omega) (.cells #[.int .i8 n.op,.int .i8 n.len,.int .i64 n.a0,.int .i64 n.a1,.int .i64 n.a2,.int .i64 n.sort,.int .i64 n.fn,.int .i64 n.n] 49));have BN:=kp (HBw.out.alloc HBw.out.size (.cells #[.int .i8 n.op,.int .i8 n.len,.int .i64 n.a0,.int .i64 n.a1,.int .i64 n.a2,.int .i64 n.sort,.int .i64 n.fn,.int .i64 n.n] 49));have HSn2:=kp (fun W hW=>HSo.out HG.out W hW n HI.out k HSn.out (by omega));unfold nodeV SortPost at HSn2;have HSd:=kp (show sortedN g t n=(decide ((sortProg g t n).2=0) && decide ((sortProg g t n).1=n.sort)) from rfl);clear hn2 hxi;generalize sortedN g t n=sn at *;generalize sortProg g t n=r at *;obtain ⟨r1,r2⟩:=r;obtain ⟨t0,tf⟩:=Bk.c1 TR.out;go_upto_region 6 with fail
     have hwn:wr.heap.size < (wr.alloc (.cells #[.int .i8 n.op,.int .i8 n.len,.int .i64 n.a0,.int .i64 n.a1,.int .i64 n.a2,.int .i64 n.sort,.int .i64 n.fn,.int .i64 n.n] 49)).heap.size:=by simp
     generalize wr.alloc (.cells #[.int .i8 n.op,.int .i8 n.len,.int .i64 n.a0,.int .i64 n.a1,.int .i64 n.a2,.int .i64 n.sort,.int .i64 n.fn,.int .i64 n.n] 49)=wn at *;clear x0 x1 x2 x3 x4 x5 x6 x7 t0 tf;obtain ⟨t0,tf⟩:=Bk.c1 TB.out;obtain ⟨s0,s1,s2,sf⟩:=Bk.c3 SB.out;obtain ⟨x0,x1,x2,x3,x4,x5,x6,x7,xf⟩:=Bk.c8 NB.out;go_wp2_with fail
     refine(HSn2.out wn BN.out).mono ?_;rintro e w6 ⟨rfl,hb6⟩;have B6:=kp (BN.out.trans (hb6.mono BN.out.size));have H6:=kp (HBn.out.trans (hb6.mono (by have:=Z3.out;have:=HBn.out.size;omega)));have N6:=kp (Bk.on NB.out hb6);clear hb6 t0 tf s0 s1 s2 sf x0 x1 x2 x3 x4 x5 x6 x7 xf;obtain ⟨x0,x1,x2,x3,x4,x5,x6,x7,xf⟩:=Bk.c8 N6.out
     by_cases hr2:r2=0
     ·have hr2':decide (r2=0)=true:=by simp [hr2]
      by_cases hr1:r1=n.sort
      ·have hr1':(r1 != n.sort)=false:=by simp [hr1]
       have HQ:=kp (HTk.out (by rw [HSd.out,hr2,hr1];simp));clear hr2 hr1;go_wp2_with fail
       go_roundw
       case rel=>exact⟨k+1,by omega,by go_num,H6.out,HQ.out⟩
       case measure=>simp [intOf];omega
      ·have hr1':(r1 != n.sort)=true:=by simp [hr1]
       have HQ:=kp (HNk.out (by rw [HSd.out];simp [hr1]));clear hr2 hr1;rw [HQ.out] at HE;go_wp2_with fail
       go_ret;exact⟨ret_int HE.out.symm,B6.out⟩
     ·have hr2':decide (r2=0)=false:=by simp [hr2]
      have HQ:=kp (HNk.out (by rw [HSd.out];simp [hr2]));clear hr2;rw [HQ.out] at HE;go_wp2_with fail
      go_ret;exact⟨ret_int HE.out.symm,B6.out⟩
    ·have hke:k=t.length:=by omega
     have HQ:=kp (show sb=true from HAll.out fun j n hj hn=>HTo.out j n (by omega) hn);rw [HQ.out] at HE;clear hke;go_wp2_with fail
     go_ret;exact⟨ret_int HE.out.symm,HBw.out⟩
  ·have hct':(ct != 0)=true:=by simp [hct]
   replace HE:=kp (HE.out.trans (if_pos (.inr hct)));clear hct;go_wp2_with fail
   go_ret;exact⟨ret_int HE.out.symm,B3.out⟩
 ·have hg':(cg != 0)=true:=by simp [hg]
  replace HE:=kp (HE.out.trans (if_pos (.inl hg)));clear hg;go_wp2_with fail
  go_ret;exact⟨ret_int HE.out.symm,B2.out⟩
end El
namespace El
open Go.RowKit Go.Maps Dt Sg
structure Fix where
 W0:World
 mb:Nat
 A1:Option Addr
 c1:Nat
 A2:Option Addr
 c2:Nat
 A3:Option Addr
 c3:Nat
 c:Cx
structure FixOk (F:Fix):Prop where
 sig:SigAt F.W0 F.A1 F.c1 F.A2 F.c2 F.A3 F.c3 F.c.g
 ok:checkE F.c.g=0
 lt:F.W0.heap.size<=F.mb
 most:F.c.most<=1000000
 m64:I64 F.c.most
def onMb (F:Fix) (k:Nat):Prop:=k=F.mb
def Sta (F:Fix) (P:World->Prop) (w:World):Prop:=∀ W,Keeps (onMb F) w W->P W
theorem Sta.now {F:Fix} {P:World->Prop} {w:World} (h:Sta F P w):P w:=h w (Keeps.refl _ _)
theorem Sta.on {F:Fix} {P:World->Prop} {w w':World} (h:Sta F P w) (hk:Keeps (onMb F) w w'):Sta F P w':=fun W hW=>h W (hk.trans_same hW)
theorem Sta.imp {F:Fix} {P Q:World->Prop} {w:World} (h:Sta F P w) (hi:∀ W,P W->Q W):Sta F Q w:=fun W hW=>hi W (h W hW)
def TN (B:Nat) (t:List Node) (At:Option Addr) (t':List Node) (At':Option Addr):Prop:=(t'=t/\At'=At)\/(t'≠[]->∀ b o,At'=some ⟨b,o,none⟩->B<=b)
theorem TN.refl (B:Nat) (t:List Node) (At:Option Addr):TN B t At t At:=.inl ⟨rfl,rfl⟩
theorem TN.mono {B C:Nat} {t t':List Node} {At At':Option Addr} (h:TN B t At t' At') (hC:C<=B):TN C t At t' At':=h.imp_right fun h ht b o e=>Nat.le_trans hC (h ht b o e)
theorem TN.trans {B C:Nat} {t t' t2:List Node} {At At' A2:Option Addr} (h:TN B t At t' At') (k:TN C t' At' t2 A2) (hC:B<=C):TN B t At t2 A2:=by
 rcases k with⟨rfl,rfl⟩ | k
 ·exact h
 ·exact .inr fun ht b o e=>Nat.le_trans hC (k ht b o e)
def Far (k:Nat) (t:List Node) (At:Option Addr):Prop:=t≠[]->∀ b o,At=some ⟨b,o,none⟩->b≠k
theorem Far.of_tn {B k:Nat} {t t':List Node} {At At':Option Addr} (h:Far k t At) (hn:TN B t At t' At') (hk:k < B):Far k t' At':=by
 rcases hn with⟨rfl,rfl⟩ | hn
 ·exact h
 ·intro ht b o e hb;have:=hn ht b o e
  omega
theorem lies_block {w w':World} {At:Option Addr} {t:List Node} (h:Lies 8 NodeR w At t) (hs:w.heap.size<=w'.heap.size) (hb:t≠[]->∀ b o,At=some ⟨b,o,none⟩->w'.heap[b]?=w.heap[b]?):Lies 8 NodeR w' At t:=by
 rcases h with h | ⟨b,o,hA,hlt,hr⟩
 ·exact .inl h
 ·by_cases ht:t=[]
  ·exact .inl ht
  refine .inr ⟨b,o,hA,by omega,fun i x hx=>?_⟩;obtain ⟨vs,h1,h2,h3⟩:=hr i x hx;exact⟨vs,h1,fun j u hu=>(World.cell?_of_block (a:=⟨b,o+i * 8+j,none⟩) (hb ht b o hA)).trans (h2 j u hu),h3⟩
theorem lies_lt {w:World} {At:Option Addr} {t:List Node} (h:Lies 8 NodeR w At t) (ht:t≠[]):∀ b o,At=some ⟨b,o,none⟩->b < w.heap.size:=by
 rcases h with h | ⟨b,o,hA,hlt,hr⟩
 ·exact absurd h ht
 ·intro b' o' e;rw [hA] at e;obtain ⟨rfl,rfl⟩:=aiq e;exact hlt
structure Mk (F:Fix) (w:World) (known:Int) (st:St) (At:Option Addr) (ct:Nat):Prop where
 blk:w.heap[F.mb]?=some (.cells #[.slice F.A1 F.c.g.sorts.length F.c1,.slice F.A2 F.c.g.funs.length F.c2,.slice F.A3 F.c.g.macros.length F.c3,.slice At st.t.length ct,.int .i64 F.c.most,.bool F.c.build,.int .i64 known,.int .i64 st.calls,.int .i64 st.e] 80 (0,0))
 le:st.t.length<=ct
 lm:ct<=maxLen
 len:st.t.length<=1000000
 table:Lies 8 NodeR w At st.t
 far:Far F.mb st.t At
 calls:0<=st.calls/\st.calls<=301/\(st.e=0->st.calls<=300)
 below:Below F.W0.heap.size F.W0 w
def valV (v:V):Value:=.agg #[.int .i64 v.1,.int .i64 v.2]
def VI (v:V):Prop:=I64 v.1/\I64 v.2
theorem Mk.lt {F:Fix} {w:World} {known:Int} {st:St} {At:Option Addr} {ct:Nat} (h:Mk F w known st At ct):F.mb < w.heap.size:=lt_of_block h.blk
theorem Mk.new_far {F:Fix} {w:World} {known:Int} {st:St} {At:Option Addr} {ct:Nat} (h:Mk F w known st At ct) {k:Nat} (hk:w.heap.size<=k):Far k st.t At:=fun ht b o e=>by
 have:=lies_lt h.table ht b o e
 omega
theorem below_mb {F:Fix} (hF:FixOk F) {w w':World} (h:Below F.W0.heap.size F.W0 w) (hk:Keeps (onMb F) w w'):Below F.W0.heap.size F.W0 w' :=
 h.trans (hk.below (fun k hk=>by unfold onMb at hk;have:=hF.lt;omega) h.size)
theorem Mk.same {F:Fix} {w w':World} {known:Int} {st:St} {At:Option Addr} {ct:Nat} (h:Mk F w known st At ct) {S:Nat->Prop} (hk:Keeps S w w') (h1:¬ S F.mb) (h2:st.t≠[]->∀ b o,At=some ⟨b,o,none⟩->¬ S b) (h3:∀ k,S k->F.W0.heap.size<=k):Mk F w' known st At ct :=
 ⟨(hk.block F.mb h.lt h1).trans h.blk,h.le,h.lm,h.len,lies_block h.table hk.size (fun ht b o e=>hk.block b (lies_lt h.table ht b o e) (h2 ht b o e)),h.far,h.calls,h.below.trans (hk.below h3 h.below.size)⟩
theorem Mk.keep {F:Fix} {w w':World} {known:Int} {st:St} {At:Option Addr} {ct:Nat} (h:Mk F w known st At ct) (hb:Below w.heap.size w w'):Mk F w' known st At ct :=
 h.same (Keeps.of_below hb (fun _=>False)) id (fun _ _ _ _ h=>h) (fun _ h=>h.elim)
theorem Mk.other {F:Fix} (hF:FixOk F) {w:World} {known:Int} {st:St} {At:Option Addr} {ct:Nat} (h:Mk F w known st At ct) {k:Nat} (hk:F.mb < k) (hf:Far k st.t At) (j:Nat) (u:Value):Mk F (w.setCell ⟨k,j,none⟩ u) known st At ct :=
 h.same (S:=fun b=>b=k) ((Keeps.refl (fun b=>b=k) w).setCell (p:=⟨k,j,none⟩) (.inl rfl) u) (by omega) (fun ht b o e hb=>hf ht b o e hb) (fun b hb=>by have:=hF.lt;omega)
theorem Mk.set {F:Fix} (hF:FixOk F) {w:World} {known known':Int} {st st':St} {At:Option Addr} {ct:Nat} (h:Mk F w known st At ct) (j:Nat) (u:Value) (ht:st'.t=st.t)
  (hj:#[Value.slice F.A1 F.c.g.sorts.length F.c1,.slice F.A2 F.c.g.funs.length F.c2,.slice F.A3 F.c.g.macros.length F.c3,.slice At st.t.length ct,.int .i64 F.c.most,.bool F.c.build,.int .i64 known,.int .i64 st.calls,.int .i64 st.e].setIfInBounds j u=#[Value.slice F.A1 F.c.g.sorts.length F.c1,.slice F.A2 F.c.g.funs.length F.c2,.slice F.A3 F.c.g.macros.length F.c3,.slice At st'.t.length ct,.int .i64 F.c.most,.bool F.c.build,.int .i64 known',.int .i64 st'.calls,.int .i64 st'.e])
  (hc:0<=st'.calls/\st'.calls<=301/\(st'.e=0->st'.calls<=300)):Mk F (w.setCell ⟨F.mb,j,none⟩ u) known' st' At ct/\Keeps (onMb F) w (w.setCell ⟨F.mb,j,none⟩ u):=by
 have hk:Keeps (onMb F) w (w.setCell ⟨F.mb,j,none⟩ u):=(Keeps.refl _ w).setCell (.inl (show onMb F F.mb from rfl)) u;refine⟨⟨?_,by rw [ht];exact h.le,h.lm,by rw [ht];exact h.len,?_,by rw [ht];exact h.far,hc,below_mb hF h.below hk⟩,hk⟩
 ·have:=Bk.set_at h.blk j u;rw [hj] at this;exact this
 ·rw [ht];exact lies_block h.table hk.size (fun hn b o e=>hk.block b (lies_lt h.table hn b o e) (h.far hn b o e))
def MkPost (F:Fix) (known:Int) (w:World) (t:List Node) (At:Option Addr) (v:V) (st':St) (e:Ending) (w':World):Prop :=
 e=.returned (valV v)/\VI v/\Keeps (onMb F) w w'/\∃ A' c',Mk F w' known st' A' c'/\TN w.heap.size t At st'.t A'
theorem val_ret {f:Func} {w:World} {b k:Nat} {x y:Value} {act:Act} {R:Ending->World->Prop} (hf:f.results=#[.cell k 82]) (hb:w.heap[b]?=some (.cells #[x,y] 82 (0,0))) (h2:act.tmps[k]?=some (.pointer (some ⟨b,0,none⟩))) (hd:act.defers=[]) (hR:R (.returned (.agg #[x,y])) w) :
  bodyPost Tryz.prog f R .ret act w:=by
 obtain ⟨y0,y1,_⟩:=Bk.c2 hb;refine bodyPost_ret (v:=.agg #[x,y]) ?_ hd hR;simp [results,hf,go_sem,y0,y1,h2]
theorem mk_end {F:Fix} (hF:FixOk F) {f:Func} {k rb:Nat} {w W:World} {known:Int} {t:List Node} {At:Option Addr} {v:V} {st':St} {A':Option Addr} {c':Nat} {act:Act} {r0 r1:Value}
  (hf:f.results=#[.cell k 82]) (hm:Mk F W known st' A' c') (hw:F.mb < w.heap.size) (hk:Keeps (onMb F) w W) (hn:TN w.heap.size t At st'.t A') (hrb:w.heap.size<=rb) (hr:Far rb st'.t A') (hb:W.heap[rb]?=some (.cells #[r0,r1] 82 (0,0)))
  (h2:act.tmps[k]?=some (.pointer (some ⟨rb,0,none⟩))) (hd:act.defers=[]) (hv:VI v) :
  bodyPost Tryz.prog f (MkPost F known w t At v st') .ret act ((W.setCell ⟨rb,0,none⟩ (.int .i64 v.1)).setCell ⟨rb,1,none⟩ (.int .i64 v.2)):=by
 refine val_ret hf (b:=rb) (x:=.int .i64 v.1) (y:=.int .i64 v.2) (Bk.set_at (Bk.set_at hb 0 _) 1 _) h2 hd ?_;exact⟨rfl,hv,(hk.setCell (p:=⟨rb,0,none⟩) (.inr hrb) _).setCell (p:=⟨rb,1,none⟩) (.inr hrb) _,A',c',(hm.other hF (by omega) hr 0 _).other hF (by omega) hr 1 _,hn⟩
theorem v0_VI:VI v0:=⟨by show I64 0;unfold I64;omega,by show I64 0;unfold I64;omega⟩
theorem fail_any {F:Fix} (hF:FixOk F) {w:World} {known:Int} {st:St} {At:Option Addr} {ct:Nat} (hm:Mk F w known st At ct) (e:Int) (he:e≠0) :
  Calls Tryz.prog 58 #[.pointer (some ⟨F.mb,0,none⟩),.int .i64 e] w (MkPost F known w st.t At v0 (failS e st)):=by
 have HM:=kp (hm.keep ((brq w).alloc nlq (.cells #[.int .i64 0,.int .i64 0] 82)));have RB:=kp (Bk.new w (.cells #[.int .i64 0,.int .i64 0] 82));have hlt:=hm.lt;have HFr:=kp (hm.new_far nlq);have HS:=kp (show failS e st=if st.e=0 then { st with e:=e } else st from rfl);have HK:=kp ((Keeps.refl (onMb F) w).alloc (.cells #[.int .i64 0,.int .i64 0] 82));clear hm;generalize failS e st=st' at *
 go_enter Tryz.func58,Tryz.ntmps58
 go_upto_region 1 with fail
 generalize w.alloc (.cells #[.int .i64 0,.int .i64 0] 82)=w1 at *;obtain ⟨m0,m1,m2,m3,m4,m5,m6,m7,m8,mf⟩:=Bk.c9 HM.out.blk;obtain ⟨r0,r1,rf⟩:=Bk.c2 RB.out
 by_cases he0:st.e=0
 ·have he1:(st.e == 0)=true:=by simp [he0]
  replace HS:=kp (HS.out.trans (if_pos he0));have hset:=kp (Mk.set hF HM.out (known':=known) (st':=st') 8 (.int .i64 e) (by rw [HS.out]) (by rw [HS.out];rfl) (by rw [HS.out];have:=HM.out.calls;exact⟨this.1,this.2.1,fun h=>absurd h he⟩));clear he0;go_wp2_with fail
  exact mk_end (v:=v0) hF Tryz.results58 hset.out.1 hlt (HK.out.trans_same hset.out.2) (by rw [HS.out];exact TN.refl _ _ _) nlq (by rw [HS.out];exact HFr.out) (Bk.apart RB.out (by show w.heap.size≠F.mb;omega) _) rfl rfl v0_VI
 ·have he1:(st.e == 0)=false:=by simp [he0]
  replace HS:=kp (HS.out.trans (if_neg he0));clear he0;go_wp2_with fail
  exact mk_end (v:=v0) hF Tryz.results58 (by rw [HS.out];exact HM.out) hlt HK.out (by rw [HS.out];exact TN.refl _ _ _) nlq (by rw [HS.out];exact HFr.out) RB.out rfl rfl v0_VI
def strKV (s:ByteArray):Value:=.string s
def EnvR (w:World):Option Addr->List Env->Prop
 | p,[]=>p=none
 | p,l :: r=>∃ b ap m n,p=some ⟨b,0,none⟩/\w.heap[b]?=some (.cells #[.pointer ap,.map (some m)] 117 (0,0))/\KeyMap 9 strKV w m n (fun s=>(findE l s).map valV)/\(∀ q ∈ l,VI q.2)/\EnvR w ap r
theorem EnvR.keeps {S:Nat->Prop} {w w':World} (hk:Keeps S w w'):∀ {ls:List Env} {p:Option Addr},EnvR w p ls->(∀ b,S b->w.heap.size<=b)->EnvR w' p ls
 | [],_,h,_=>h
 | l :: r,p,⟨b,ap,m,n,h1,h2,h3,h4,h5⟩,hS =>
  ⟨b,ap,m,n,h1,(hk.block b (lt_of_block h2) (fun hs=>by have:=hS b hs;have:=lt_of_block h2;omega)).trans h2,h3.keeps hk (fun hs=>by have:=hS m hs;have:=h3.lt;omega),h4,EnvR.keeps hk h5 hS⟩
theorem EnvR.below {w w':World} (hb:Below w.heap.size w w') {ls:List Env} {p:Option Addr} (h:EnvR w p ls):EnvR w' p ls:=h.keeps (Keeps.of_below hb (fun _=>False)) (fun _ h=>h.elim)
theorem EnvR.len {w:World}:∀ {ls ls':List Env} {p:Option Addr},EnvR w p ls->EnvR w p ls'->ls.length=ls'.length
 | [],[],_,_,_=>rfl
 | [],_ :: _,_,h,⟨b,ap,m,n,h1,_⟩=>by rw [show _=none from h] at h1;cases h1
 | _ :: _,[],_,⟨b,ap,m,n,h1,_⟩,h=>by rw [show _=none from h] at h1;cases h1
 | l :: r,l' :: r',p,⟨b,ap,m,n,h1,h2,h3,h4,h5⟩,⟨b',ap',m',n',h1',h2',h3',h4',h5'⟩=>by
  rw [h1] at h1';simp only [Option.some.injEq,Addr.mk.injEq,and_true] at h1';subst h1';rw [h2] at h2';simp only [Option.some.injEq,Obj.cells.injEq,Array.mk.injEq,List.cons.injEq,Value.pointer.injEq,and_true] at h2';obtain ⟨rfl,_⟩:=h2';simp [EnvR.len h5 h5']
open Classical in
noncomputable def dep (w:World) (v:Value):Nat:=if h:∃ ls,∃ p,v=.pointer p/\EnvR w p ls then h.choose.length else 0
theorem dep_eq {w:World} {p:Option Addr} {ls:List Env} (h:EnvR w p ls):dep w (.pointer p)=ls.length:=by
 have hx:∃ ls,∃ p',(Value.pointer p)=.pointer p'/\EnvR w p' ls:=⟨ls,p,rfl,h⟩;unfold dep;rw [dif_pos hx];obtain ⟨p',e,h'⟩:=hx.choose_spec
 cases e
 exact EnvR.len h' h
theorem findE_append (a b:Env) (s:ByteArray):findE (a ++ b) s=(findE a s).or (findE b s):=by
 unfold findE;rw [List.find?_append]
 cases a.find? fun p=>decide (p.1=s) <;> simp
def EnvS (F:Fix) (w:World) (p:Option Addr) (env:Env):Prop:=∃ ls:List Env,ls.flatten=env/\Sta F (fun W=>EnvR W p ls) w
theorem EnvS.on {F:Fix} {w w':World} {p:Option Addr} {env:Env} (h:EnvS F w p env) (hk:Keeps (onMb F) w w'):EnvS F w' p env:=by
 obtain ⟨ls,h1,h2⟩:=h;exact⟨ls,h1,h2.on hk⟩
theorem EnvS.nil (F:Fix) (w:World):EnvS F w none []:=⟨[],rfl,fun _ _=>rfl⟩
theorem EnvS.cons {F:Fix} {w:World} {p:Option Addr} {env l:Env} {b m n:Nat} (h:EnvS F w p env) (h2:w.heap[b]?=some (.cells #[.pointer p,.map (some m)] 117 (0,0))) (h3:KeyMap 9 strKV w m n (fun s=>(findE l s).map valV)) (h4:∀ q ∈ l,VI q.2) (hb:b≠F.mb) (hm:m≠F.mb):EnvS F w (some ⟨b,0,none⟩) (l ++ env):=by
 obtain ⟨ls,h1,h5⟩:=h;exact⟨l :: ls,by simp [h1],fun W hW=>⟨b,p,m,n,rfl,(hW.block b (lt_of_block h2) hb).trans h2,h3.keeps hW hm,h4,h5 W hW⟩⟩
theorem zero_val (w:World):(zeroValue 82).run Tryz.prog w=.ok (.agg #[.int .i64 0,.int .i64 0]) w:=by kernel_rfl
theorem look_scope {w:World} {m n:Nat} {l:Env} (h:KeyMap 9 strKV w m n (fun s=>(findE l s).map valV)) (name:ByteArray) (hs:(name.size:Int)<=140737488351232) :
  (Instr.lookup 115 (.map (some m)) (.string name) true).run Tryz.prog w=.ok (.tuple #[valV ((findE l name).getD v0),.bool (findE l name).isSome]) w:=by
 have h1:=h.look (a:=name) string_key Tryz.underlying115 (zero_val w) (keyOf_str hs);rw [show strKV name=.string name from rfl] at h1;rw [h1]
 cases findE l name <;> rfl
theorem find_ret {f:Func} {w:World} {b:Nat} {x y:Value} {o:Bool} {act:Act} {R:Ending->World->Prop} (hf:f.results=#[.cell 4 82,.tmp 5]) (hb:w.heap[b]?=some (.cells #[x,y] 82 (0,0))) (h2:act.tmps[4]?=some (.pointer (some ⟨b,0,none⟩))) (h3:act.tmps[5]?=some (.bool o)) (hd:act.defers=[]) (hR:R (.returned (.tuple #[.agg #[x,y],.bool o])) w) :
  bodyPost Tryz.prog f R .ret act w:=by
 obtain ⟨y0,y1,_⟩:=Bk.c2 hb;refine bodyPost_ret (v:=.tuple #[.agg #[x,y],.bool o]) ?_ hd hR;simp [results,hf,go_sem,y0,y1,h2,h3]
def FindPost (env:Env) (name:ByteArray) (w:World) (e:Ending) (w':World):Prop:=e=.returned (.tuple #[valV ((findE env name).getD v0),.bool (findE env name).isSome])/\Below w.heap.size w w'
theorem find_any {w:World} {p:Option Addr} {ls:List Env} (h:EnvR w p ls) (name:ByteArray) (hs:(name.size:Int)<=140737488351232) :
  Calls Tryz.prog 59 #[.pointer p,.string name] w (FindPost ls.flatten name w):=by
 have HP:=kp (show ∀ (v:V) (o:Bool) w',v=(findE ls.flatten name).getD v0->o=(findE ls.flatten name).isSome->Below w.heap.size w w'->FindPost ls.flatten name w (.returned (.tuple #[.agg #[.int .i64 v.1,.int .i64 v.2],.bool o])) w' from fun v o w' h1 h2 h3=>by
  unfold FindPost;rw [h1,h2];exact⟨rfl,h3⟩)
 have RB:=kp (Bk.new w (.cells #[.int .i64 0,.int .i64 0] 82));have B1:=kp ((brq w).alloc nlq (.cells #[.int .i64 0,.int .i64 0] 82));have HR:=kp h;clear h;generalize FindPost ls.flatten name w=PP at *;obtain ⟨fe,hfe⟩:∃ fe,fe=findE ls.flatten name:=⟨_,rfl⟩;rw [← hfe] at HP;have HFe:=kp hfe;clear hfe
 go_enter Tryz.func59,Tryz.ntmps59
 go_upto_region 1 with fail
 generalize w.alloc (.cells #[.int .i64 0,.int .i64 0] 82)=w1 at *
 go_loopw [0] (fun v wr=>∃ p' ls',v=.pointer p'/\EnvR wr p' ls'/\fe=findE ls'.flatten name/\Below w.heap.size w wr/\wr.heap[w.heap.size]?=some (.cells #[.int .i64 0,.int .i64 0] 82 (0,0))) (fun v wr=>dep wr v)
 case atStart=>exact⟨p,ls,rfl,HR.out.below B1.out,HFe.out,B1.out,RB.out⟩
 case round =>
  obtain ⟨p',ls',rfl,hr,hf,hb,hrb⟩:=hrel;have HF:=kp hf;have HB:=kp hb;have RR:=kp hrb;have HD:=kp (dep_eq hr);clear hf hb hrb
  cases ls' with
  | nil =>
   obtain rfl:=show p'=none from hr;obtain ⟨r0,r1,rf⟩:=Bk.c2 RR.out;go_wp2_with fail
   exact find_ret Tryz.results59 (Bk.set_at (Bk.set_at RR.out 0 _) 1 _) rfl rfl rfl (HP.out v0 false _ (by rw [HF.out];rfl) (by rw [HF.out];rfl) ((HB.out.setCell (p:=⟨w.heap.size,0,none⟩) nlq _).setCell (p:=⟨w.heap.size,1,none⟩) nlq _))
  | cons l r =>
   have hr0:=hr;obtain ⟨b,ap,m,n,rfl,h2,h3,h4,h5⟩:=hr;have HC:=kp h2;have HKm:=kp h3;obtain ⟨s0,s1,sf⟩:=Bk.c2 h2;have hlook:=look_scope h3 name hs;rw [List.flatten_cons,findE_append] at HF;have HR5:=kp h5;have HDc:=kp (dep_eq h5);clear h2 h3 h4 hr0
   cases hfl:findE l name with
   | none =>
    rw [hfl] at HF hlook;unfold valV v0 at hlook;have BA:=kp (HB.out.alloc HB.out.size (.cells #[.int .i64 0,.int .i64 0] 82));have RA:=kp (Bk.keep RR.out (.cells #[.int .i64 0,.int .i64 0] 82));have HA:=kp (HR5.out.below ((brq wr).alloc nlq (.cells #[.int .i64 0,.int .i64 0] 82)));have CA:=kp (Bk.keep HC.out (.cells #[.int .i64 0,.int .i64 0] 82));have HDa:=kp (dep_eq HA.out);clear hfl;go_upto_region 4 with fail
    clear s0 s1 sf;generalize wr.alloc (.cells #[.int .i64 0,.int .i64 0] 82)=wa at *;obtain ⟨s0,s1,sf⟩:=Bk.c2 CA.out;go_wp2_with fail
    go_roundw
    case rel=>exact⟨ap,r,rfl,HA.out,by rw [HF.out];rfl,BA.out,RA.out⟩
    case measure=>rw [HDa.out,HD.out];simp
   | some v =>
    rw [hfl] at HF hlook;unfold valV at hlook;have BA:=kp (HB.out.alloc HB.out.size (.cells #[.int .i64 v.1,.int .i64 v.2] 82));have RA:=kp (Bk.keep RR.out (.cells #[.int .i64 v.1,.int .i64 v.2] 82));have VA:=kp (Bk.new wr (.cells #[.int .i64 v.1,.int .i64 v.2] 82));clear hfl;go_upto_region 4 with fail
    clear s0 s1 sf;generalize hwa:wr.alloc (.cells #[.int .i64 v.1,.int .i64 v.2] 82)=wa at *;clear hwa;obtain ⟨x0,x1,xf⟩:=Bk.c2 VA.out;obtain ⟨r0,r1,rf⟩:=Bk.c2 RA.out;go_wp2_with fail
    exact find_ret Tryz.results59 (Bk.set_at (Bk.set_at RA.out 0 _) 1 _) rfl rfl rfl (HP.out v true _ (by rw [HF.out];rfl) (by rw [HF.out];rfl) ((BA.out.setCell (p:=⟨w.heap.size,0,none⟩) nlq _).setCell (p:=⟨w.heap.size,1,none⟩) nlq _))
theorem lies_new {B:Nat} {w:World} {A:Option Addr} {t:List Node} (h:∀ W,Keeps (fun b=>b < B) w W->Lies 8 NodeR W A t):t≠[]->∀ b o,A=some ⟨b,o,none⟩->B<=b:=by
 intro ht b o e;subst e
 by_cases hb:B<=b
 ·exact hb
 exfalso
 obtain ⟨n,r,rfl⟩:=List.exists_cons_of_ne_nil ht;have h1:=h w (Keeps.refl _ _);obtain ⟨b1,o1,e1,h1',_⟩:=node_get h1 (k:=0) (n:=n) rfl;have h2:=h (w.setCell ⟨b,o,none⟩ (.string { data:=#[] })) ((Keeps.refl (fun b=>b < B) w).setCell (p:=⟨b,o,none⟩) (.inl (by show b < B;omega)) _);obtain ⟨b2,o2,e2,h2',_⟩:=node_get h2 (k:=0) (n:=n) rfl;simp only [Option.some.injEq,Addr.mk.injEq,and_true] at e1 e2;obtain ⟨rfl,rfl⟩:=e1;obtain ⟨rfl,rfl⟩:=e2;have c1:=h1'.2.1;have c2:=h2'.2.1;rw [Nat.zero_mul,Nat.add_zero] at c1 c2;have c3:=World.cell?_setCell_same w ⟨b,o,none⟩ (.string { data:=#[] }) c1;rw [c2] at c3
 cases c3
def PutCut (w1:World) (t:List Node) (At:Option Addr) (r:List Node × Int × Int) (v5 v6 v7:Value) (W:World):Prop :=
 ∃ A' c' b,v5=.pointer (some ⟨b,0,none⟩)/\v6=.int .i64 r.2.1/\v7=.int .i64 r.2.2/\W.heap[b]?=some (.cells #[.slice A' r.1.length c'] 29 (0,0))/\w1.heap.size<=b/\Below w1.heap.size w1 W/\(r.1.length<=c'/\c'<=maxLen)/\Lies 8 NodeR W A' r.1/\TN w1.heap.size t At r.1 A'
theorem putCut_of {w1 wc w2:World} {t:List Node} {At A':Option Addr} {ct c':Nat} {r:List Node × Int × Int} (hb:Below wc.heap.size wc w2) (hw:Below w1.heap.size w1 wc)
  (hL:Lies 8 NodeR wc At t) (h:(A'=At/\c'=ct/\r.1=t)\/(∀ W',Keeps (fun b=>b < wc.heap.size) w2 W'->Lies 8 NodeR W' A' r.1)) :
  Lies 8 NodeR w2 A' r.1/\TN w1.heap.size t At r.1 A':=by
 rcases h with⟨rfl,rfl,h⟩ | h
 ·rw [h];exact⟨hL.on NodeR.lasts hb,.inl ⟨rfl,rfl⟩⟩
 ·exact⟨h w2 (Keeps.refl _ _),.inr fun ht b o e=>Nat.le_trans hw.size (lies_new h ht b o e)⟩
theorem putT_ok {t:List Node} {n:Node} {most M:Int} (h:(putT t n most).2.2=0) (ht:(t.length:Int)<=M) (hm:most<=M):((putT t n most).1.length:Int)<=M/\0<=(putT t n most).2.1/\(putT t n most).2.1<=M:=by
 unfold putT at h ⊢
 split at h
 ·rename_i hc
  rw [if_pos hc]
  split at h
  ·rename_i hn
   rw [if_pos hn];have:=List.findIdx_le_length (p:=fun x=>decide (x=n)) (xs:=t);simp only
   omega
  ·rename_i hn
   rw [if_neg hn]
   split at h
   ·simp at h
   ·rename_i hl
    rw [if_neg hl];simp only [List.length_append,List.length_cons,List.length_nil]
    omega
 ·simp at h
theorem Mk.setT {F:Fix} (hF:FixOk F) {w:World} {known:Int} {st:St} {At A':Option Addr} {ct c':Nat} (h:Mk F w known st At ct) {t':List Node} (hc:t'.length<=c'/\c'<=maxLen) (hl:t'.length<=1000000) (hL:Lies 8 NodeR w A' t') (hf:Far F.mb t' A'):Mk F (w.setCell ⟨F.mb,3,none⟩ (.slice A' t'.length c')) known { st with t:=t' } A' c'/\Keeps (onMb F) w (w.setCell ⟨F.mb,3,none⟩ (.slice A' t'.length c')):=by
 have hk:Keeps (onMb F) w (w.setCell ⟨F.mb,3,none⟩ (.slice A' t'.length c')):=(Keeps.refl _ w).setCell (.inl (show onMb F F.mb from rfl)) _;exact⟨⟨Bk.set_at h.blk 3 _,hc.1,hc.2,hl,lies_block hL hk.size (fun hn b o e=>hk.block b (lies_lt hL hn b o e) (hf hn b o e)),hf,h.calls,below_mb hF h.below hk⟩,hk⟩
theorem put_any {F:Fix} (hF:FixOk F) {w:World} {known:Int} {st:St} {At:Option Addr} {ct:Nat} (hm:Mk F w known st At ct) {n:Node} (hi:NodeI n) :
  Calls Tryz.prog 91 #[.pointer (some ⟨F.mb,0,none⟩),.agg #[.int .i8 n.op,.int .i8 n.len,.int .i64 n.a0,.int .i64 n.a1,.int .i64 n.a2,.int .i64 n.sort,.int .i64 n.fn,.int .i64 n.n]] w (MkPost F known w st.t At (putM F.c n st).1 (putM F.c n st).2):=by
 have HM:=kp (hm.keep (((brq w).alloc nlq (.cells #[.int .i8 n.op,.int .i8 n.len,.int .i64 n.a0,.int .i64 n.a1,.int .i64 n.a2,.int .i64 n.sort,.int .i64 n.fn,.int .i64 n.n] 49)).alloc (by simp) (.cells #[.int .i64 0,.int .i64 0] 82)));have NB:=kp (Bk.keep (Bk.new w (.cells #[.int .i8 n.op,.int .i8 n.len,.int .i64 n.a0,.int .i64 n.a1,.int .i64 n.a2,.int .i64 n.sort,.int .i64 n.fn,.int .i64 n.n] 49)) (.cells #[.int .i64 0,.int .i64 0] 82));have RB:=kp (Bk.new (w.alloc (.cells #[.int .i8 n.op,.int .i8 n.len,.int .i64 n.a0,.int .i64 n.a1,.int .i64 n.a2,.int .i64 n.sort,.int .i64 n.fn,.int .i64 n.n] 49)) (.cells #[.int .i64 0,.int .i64 0] 82));have hlt:=hm.lt;have HFr:=kp (hm.new_far (Nat.le_refl w.heap.size));have HI:=kp hi
 have HS:=kp (show putM F.c n st=if st.e≠0\/F.c.build=false then((n.sort,0),st)
  else if(putT st.t n F.c.most).2.2=0 then((n.sort,(putT st.t n F.c.most).2.1),{ st with t:=(putT st.t n F.c.most).1 })
  else(v0,{ st with e:=(putT st.t n F.c.most).2.2 }) from rfl)
 have HK:=kp (((Keeps.refl (onMb F) w).alloc (.cells #[.int .i8 n.op,.int .i8 n.len,.int .i64 n.a0,.int .i64 n.a1,.int .i64 n.a2,.int .i64 n.sort,.int .i64 n.fn,.int .i64 n.n] 49)).alloc (.cells #[.int .i64 0,.int .i64 0] 82));generalize putM F.c n st=res at *
 go_enter Tryz.func91,Tryz.ntmps91
 go_upto_region 1 with fail
 have RB1:=kp (show((w.alloc (.cells #[.int .i8 n.op,.int .i8 n.len,.int .i64 n.a0,.int .i64 n.a1,.int .i64 n.a2,.int .i64 n.sort,.int .i64 n.fn,.int .i64 n.n] 49)).alloc (.cells #[.int .i64 0,.int .i64 0] 82)).heap[w.heap.size+1]?=some (.cells #[.int .i64 0,.int .i64 0] 82 (0,0)) by have h:=RB.out;rwa [show(w.alloc (.cells #[.int .i8 n.op,.int .i8 n.len,.int .i64 n.a0,.int .i64 n.a1,.int .i64 n.a2,.int .i64 n.sort,.int .i64 n.fn,.int .i64 n.n] 49)).heap.size=w.heap.size+1 by simp] at h);have HZ:=kp (show((w.alloc (.cells #[.int .i8 n.op,.int .i8 n.len,.int .i64 n.a0,.int .i64 n.a1,.int .i64 n.a2,.int .i64 n.sort,.int .i64 n.fn,.int .i64 n.n] 49)).alloc (.cells #[.int .i64 0,.int .i64 0] 82)).heap.size=w.heap.size+2 by simp);clear RB;generalize (w.alloc (.cells #[.int .i8 n.op,.int .i8 n.len,.int .i64 n.a0,.int .i64 n.a1,.int .i64 n.a2,.int .i64 n.sort,.int .i64 n.fn,.int .i64 n.n] 49)).alloc (.cells #[.int .i64 0,.int .i64 0] 82)=w1 at *;obtain ⟨m0,m1,m2,m3,m4,m5,m6,m7,m8,mf⟩:=Bk.c9 HM.out.blk;obtain ⟨r0,r1,rf⟩:=Bk.c2 RB1.out;obtain ⟨n0,n1,n2,n3,n4,n5,n6,n7,nf⟩:=Bk.c8 NB.out;have HF1:=kp (hm.new_far (show w.heap.size<=w.heap.size+1 by omega))
 by_cases he0:st.e=0
 ·have he1:(st.e != 0)=false:=by simp [he0]
  cases hbu:F.c.build with
  | false =>
   rw [hbu] at m5;replace HS:=kp (HS.out.trans (if_pos (.inr hbu)));clear he0 hbu;go_wp2_with fail
   rw [HS.out];refine mk_end (v:=(n.sort,0)) hF Tryz.results91 HM.out hlt HK.out (TN.refl _ _ _) (by omega) HF1.out RB1.out ?_ ?_ ⟨HI.out.sort,v0_VI.1⟩ <;> rfl
  | true =>
   rw [hbu] at m5;replace HS:=kp (HS.out.trans (if_neg (by rw [hbu,he0];simp)));have HE0:=kp he0;clear he0 hbu;go_upto_region 3 with fail
   have B0:=kp (brq w1).drew;have HPt:=kp (fun W (hW:Below w1.heap.size w1 W)=>tput_any ((HM.out.keep hW).table) hi HM.out.len HM.out.le HM.out.lm hF.m64);have HLs:=kp (fun W (hW:Below w1.heap.size w1 W)=>(HM.out.keep hW).table);have M5:=kp m5;clear m0 m1 m2 m3 m4 m5 m6 m7 m8 mf r0 r1 rf n0 n1 n2 n3 n4 n5 n6 n7 nf hi;have HPk:=kp (fun h=>putT_ok (t:=st.t) (n:=n) (most:=F.c.most) (M:=1000000) h (by have:=HM.out.len;omega) hF.most);unfold TPutPost at HPt;generalize putT st.t n F.c.most=pr at *
   go_cut [5,6,7] from 23 to 36 (fun v5 v6 v7 W=>PutCut w1 st.t At pr v5 v6 v7 W)
   case first =>
    refine wp_region_held_drew (S:=fun W=>Below w1.heap.size w1 W) (by kernel_rfl) (B0.out) (fun hHeld=>?_);refine plz [0,1,2,3,4,5,6,7,8] ?_;iterate 9 (refine tnz (v:=?_) ?_ ?_;rotate_left;(focus first | ((intro w hSw;go_simp;try with_reducible rfl);done) | ((intro w hSw;(obtain ⟨m0,m1,m2,m3,m4,m5,m6,m7,m8,mf⟩:=Bk.c9 (HM.out.keep hSw).blk;go_simp;try with_reducible rfl));done) | ((intro w hSw;(obtain ⟨n0,n1,n2,n3,n4,n5,n6,n7,nf⟩:=Bk.c8 (Bk.on NB.out hSw);go_simp;try with_reducible rfl));done));try simp only [pt])
    refine pzz ?_;refine r2y 9 14 (fun K hK=>?_) fun K hK=>?_
    ·go_simp
     go_wp2_with (go_at_call 139;refine(HPt.out _ B0.out).mono ?_;rintro e w2 ⟨A',c',rfl,hc,hb,hor⟩;have B2:=kp (B0.out.trans (hb.mono B0.out.size));have HQ:=kp (putCut_of (w1:=w1) hb B0.out (HLs.out _ B0.out) hor);have HC:=kp hc;clear hb hor hc)
     refine hK.out _ _ B2.out (fun hHeld=>?_);clear hK K;try simp only [pt]
     refine plz [10,11,12,13] ?_;iterate 4 (refine tnz (v:=?_) ?_ ?_;rotate_left;(focus (intro w hSw;go_simp;try with_reducible rfl));try simp only [pt])
     refine pzz ?_;have B3:=kp (B2.out.alloc B2.out.size (.cells #[.slice none 0 0] 29));have B4:=kp (B2.out.alloc B2.out.size (.cells #[.slice A' pr.1.length c'] 29));refine rd 14 fun K hK=>?_;go_simp;refine hK.out _ _ (B3.out) (fun hHeld=>?_);clear hK K;try simp only [pt]
     refine rd 15 fun K hK=>?_;go_simp;refine hK.out _ _ (B4.out) (fun hHeld=>?_);clear hK K;try simp only [pt]
     refine plz [16,17] ?_;iterate 2 (refine tnz (v:=?_) ?_ ?_;rotate_left;(focus (intro w hSw;go_simp;try with_reducible rfl));try simp only [pt])
     refine pzz ?_;refine dnz ?_;go_wp2_with fail
     go_meet;exact⟨A',c',w2.heap.size,rfl,rfl,rfl,Bk.new w2 _,B2.out.size,B4.out,HC.out,HQ.out.1.on NodeR.lasts ((Below.refl _ _).alloc nlq _),HQ.out.2⟩
    ·go_simp;have BA:=kp (B0.out.alloc B0.out.size (.cells #[.slice none 0 0] 29));refine hK.out _ _ BA.out (fun hHeld=>?_);clear hK K;try simp only [pt]
     have TA:=kp (show(w1.drew.alloc (.cells #[.slice none 0 0] 29)).heap[w1.heap.size]?=some (.cells #[.slice none 0 0] 29 (0,0)) from Bk.new w1.drew _);refine rd 9 fun K hK=>?_;go_simp
     go_wp2_with (go_at_call 139;refine(HPt.out _ BA.out).mono ?_;rintro e w2 ⟨A',c',rfl,hc,hb,hor⟩;have B2:=kp (BA.out.trans (hb.mono BA.out.size));have HQ:=kp (putCut_of (w1:=w1) hb BA.out (HLs.out _ BA.out) hor);have HC:=kp hc;have T2:=kp (Bk.on TA.out hb);clear hc)
     refine hK.out _ _ (B2.out) (fun hHeld=>?_);clear hK K;try simp only [pt]
     refine plz [10,11,12,13] ?_;iterate 4 (refine tnz (v:=?_) ?_ ?_;rotate_left;(focus (intro w hSw;go_simp;try with_reducible rfl));try simp only [pt])
     refine pzz ?_;have B5:=kp (B2.out.setCell (p:=⟨w1.heap.size,0,none⟩) nlq (.slice A' pr.1.length c'));have T5:=kp (Bk.set_at T2.out 0 (.slice A' pr.1.length c'))
     have HA:=kp (show pr.1≠[]->∀ b o,A'=some ⟨b,o,none⟩->b≠w1.heap.size from fun ht b o e=>by
      rcases hor with⟨h1,h2,h3⟩ | hor
      ·subst h1;rw [h3] at ht;have:=lies_lt (HLs.out _ (brq w1)) ht b o e
       omega
      ·have:=lies_new hor ht b o e;have h4:=BA.out.size;simp at this
       omega)
     obtain ⟨t0,tf⟩:=Bk.c1 T2.out;clear hor hb;refine rd 15 fun K hK=>?_;go_simp;refine hK.out _ _ (B5.out) (fun hHeld=>?_);clear hK K;try simp only [pt]
     clear t0 tf;refine plz [16,17] ?_;iterate 2 (refine tnz (v:=?_) ?_ ?_;rotate_left;(focus (intro w hSw;go_simp;try with_reducible rfl));try simp only [pt])
     refine pzz ?_;refine dnz ?_;go_wp2_with fail
     go_meet;exact⟨A',c',w1.heap.size,rfl,rfl,rfl,T5.out,nlq,B5.out,HC.out,lies_block HQ.out.1 (by simp [World.setCell]) (fun ht b o e=>Below.heap_setCell w2 ⟨w1.heap.size,0,none⟩ _ b (by show b≠w1.heap.size;exact HA.out ht b o e)),HQ.out.2⟩
   case rest =>
    obtain ⟨A',c',b,rfl,rfl,rfl,hb,hlb,hB,hc,hL,hT⟩:=hcut;have Z1:=HZ.out;have HMc:=kp (HM.out.keep hB);have RBc:=kp (Bk.on RB1.out hB);have NBc:=kp (Bk.on NB.out hB);have TBc:=kp hb;have HKc:=kp (HK.out.trans_same (Keeps.of_below hB _));have HB:=kp hB;have HT:=kp hT;have HL:=kp hL;have HC:=kp hc;have HFb:=kp (show Far F.mb pr.1 A' from Far.of_tn HM.out.far hT (by omega));have HFr1:=kp (show Far (w.heap.size+1) pr.1 A' from Far.of_tn HF1.out hT (by omega));clear hB hT hL hc hb
    by_cases hz:pr.2.2=0
    ·replace HS:=kp (HS.out.trans (if_pos hz));have hz':(pr.2.2 != 0)=false:=by simp [hz]
     have hok:=HPk.out hz;have HSt:=kp (Mk.setT hF HMc.out HC.out (by omega) HL.out HFb.out);have hVI:VI (n.sort,pr.2.1):=⟨HI.out.sort,by show I64 pr.2.1;unfold I64;omega⟩;have NB2:=kp (Bk.apart NBc.out (p:=⟨F.mb,3,none⟩) (by show w.heap.size≠F.mb;omega) (.slice A' pr.1.length c'));have RB2:=kp (Bk.apart RBc.out (p:=⟨F.mb,3,none⟩) (by show w.heap.size+1≠F.mb;omega) (.slice A' pr.1.length c'));clear hz hok;obtain ⟨t0,tf⟩:=Bk.c1 TBc.out;obtain ⟨m0,m1,m2,m3,m4,m5,m6,m7,m8,mf⟩:=Bk.c9 HMc.out.blk;go_upto_region 7 with fail
     clear m0 m1 m2 m3 m4 m5 m6 m7 m8 mf t0 tf;generalize wc.setCell ⟨F.mb,3,none⟩ (.slice A' pr.1.length c')=w7 at *;obtain ⟨r0,r1,rf⟩:=Bk.c2 RB2.out;obtain ⟨n0,n1,n2,n3,n4,n5,n6,n7,nf⟩:=Bk.c8 NB2.out;go_wp2_with fail
     rw [HS.out];refine mk_end (v:=(n.sort,pr.2.1)) hF Tryz.results91 HSt.out.1 hlt (HKc.out.trans_same HSt.out.2) (HT.out.mono (by omega)) (by omega) HFr1.out RB2.out ?_ ?_ hVI <;> rfl
    ·replace HS:=kp (HS.out.trans (if_neg hz));have hz':(pr.2.2 != 0)=true:=by simp [hz]
     have HFl:=kp (fail_any hF HMc.out pr.2.2 hz);clear hz;go_wp2_with fail
     refine HFl.out.mono ?_;rintro e w5 ⟨rfl,hv,hk,A5,c5,hm5,ht5⟩;have RB5:=kp ((hk.block (w.heap.size+1) (lt_of_block RBc.out) (by unfold onMb;omega)).trans RBc.out);have HM5:=kp hm5;have HK5:=kp (HKc.out.trans_same hk);have HT5:=kp (ht5.mono (show w.heap.size<=wc.heap.size by have:=HB.out.size;omega));have HF5:=kp (Far.of_tn HF1.out ht5 (by have:=HB.out.size;omega));have HSf:=kp (show failS pr.2.2 st={ st with e:=pr.2.2 } by unfold failS;rw [if_pos HE0.out]);rw [HSf.out] at HM5 HT5 HF5;unfold valV v0;clear hv hk hm5 ht5;obtain ⟨r0,r1,rf⟩:=Bk.c2 RB5.out;go_wp2_with fail
     rw [HS.out];refine mk_end (v:=v0) hF Tryz.results91 HM5.out hlt HK5.out HT5.out (by omega) HF5.out RB5.out ?_ ?_ v0_VI <;> rfl
 ·have he1:(st.e != 0)=true:=by simp [he0]
  replace HS:=kp (HS.out.trans (if_pos (.inl he0)));clear he0;go_wp2_with fail
  rw [HS.out];refine mk_end (v:=(n.sort,0)) hF Tryz.results91 HM.out hlt HK.out (TN.refl _ _ _) (by omega) HF1.out RB1.out ?_ ?_ ⟨HI.out.sort,v0_VI.1⟩ <;> rfl
theorem isNumX_eq (x:Sexp):isNumX x=(numR x).2.1:=by
 unfold isNumX numR
 cases numN x <;> rfl
theorem numR_lim (x:Sexp):-4611686018427387904<=(numR x).1/\(numR x).1<=4611686018427387904:=by
 unfold numR
 cases h:numN x with
 | none=>simp only;omega
 | some p =>
  unfold numN at h;simp only;have hx:=parseV_lim (Lx.bs x.text)
  split at h
  ·cases h;simp only;omega
  ·split at h
   ·split at h
    ·rename_i y _
     have hy:=parseV_lim (Lx.bs y.text)
     split at h
     ·cases h;simp only;omega
     ·cases h
    ·cases h
   ·cases h
theorem numberM_fst (c:Cx) (x:Sexp) (st:St):(numberM c x st).1=(numR x).1:=by
 unfold numberM numR
 cases numN x <;> rfl
theorem numberM_snd (c:Cx) (x:Sexp) (st:St):(numberM c x st).2=if(numR x).2.2≠0/\c.build=true then failS (numR x).2.2 st else st:=by
 unfold numberM numR
 cases h:numN x <;> simp
theorem isnum_any {w:World} {A:Option Addr} {c:Nat} {x:Sexp} (h:XAt w A c x) :
  Calls Tryz.prog 54 #[.agg #[.int .i8 x.kind,.string x.text,.slice A x.l.length c]] w fun e w'=>e=.returned (.bool (isNumX x))/\Below w.heap.size w w':=by
 rw [isNumX_eq];have XB:=kp (Bk.new w (.cells #[.int .i8 x.kind,.string x.text,.slice A x.l.length c] 40));have B1:=kp ((brq w).alloc nlq (.cells #[.int .i8 x.kind,.string x.text,.slice A x.l.length c] 40));have HN:=kp (fun W (hW:Below w.heap.size w W)=>numeralX_any (h.on hW));unfold NumPost at HN
 go_enter Tryz.func54,Tryz.ntmps54
 go_upto_region 1 with fail
 generalize w.alloc (.cells #[.int .i8 x.kind,.string x.text,.slice A x.l.length c] 40)=w1 at *;obtain ⟨r1,r2,r3,hr⟩:∃ a b c,numR x=(a,b,c):=⟨_,_,_,rfl⟩;rw [hr] at HN;have HR:=kp hr;clear hr;obtain ⟨q0,q1,q2,qf⟩:=Bk.c3 XB.out;go_wp2_with fail
 refine(HN.out w1 B1.out).mono ?_;rintro e w2 ⟨rfl,hb⟩;have B2:=kp (B1.out.trans (hb.mono B1.out.size));clear hb;go_wp2_with fail
 go_ret;exact⟨by rw [HR.out];rfl,B2.out⟩
def NuPost (F:Fix) (known:Int) (w:World) (t:List Node) (At:Option Addr) (n:Int) (st':St) (e:Ending) (w':World):Prop :=
 e=.returned (.int .i64 n)/\Keeps (onMb F) w w'/\∃ A' c',Mk F w' known st' A' c'/\TN w.heap.size t At st'.t A'
theorem number_any {F:Fix} (hF:FixOk F) {w:World} {known:Int} {st:St} {At:Option Addr} {ct:Nat} (hm:Mk F w known st At ct) {A:Option Addr} {c:Nat} {x:Sexp} (h:XAt w A c x) :
  Calls Tryz.prog 56 #[.pointer (some ⟨F.mb,0,none⟩),.agg #[.int .i8 x.kind,.string x.text,.slice A x.l.length c]] w (NuPost F known w st.t At (numberM F.c x st).1 (numberM F.c x st).2):=by
 rw [numberM_fst,numberM_snd];have XB:=kp (Bk.new w (.cells #[.int .i8 x.kind,.string x.text,.slice A x.l.length c] 40));have B1:=kp ((brq w).alloc nlq (.cells #[.int .i8 x.kind,.string x.text,.slice A x.l.length c] 40));have HN:=kp (fun W (hW:Below w.heap.size w W)=>numeralX_any (h.on hW))
 have HP:=kp (show ∀ w' n st' A' c',n=(numR x).1->st'=(if(numR x).2.2≠0/\F.c.build=true then failS (numR x).2.2 st else st)->Keeps (onMb F) w w'->Mk F w' known st' A' c'->TN w.heap.size st.t At st'.t A'->NuPost F known w st.t At (numR x).1 (if(numR x).2.2≠0/\F.c.build=true then failS (numR x).2.2 st else st) (.returned (.int .i64 n)) w' from fun w' n st' A' c' h1 h2 h3 h4 h5=>by
  subst h1;subst h2;exact⟨rfl,h3,A',c',h4,h5⟩)
 generalize NuPost F known w st.t At (numR x).1 (if(numR x).2.2≠0/\F.c.build=true then failS (numR x).2.2 st else st)=PP at *;unfold NumPost at HN;have HM:=kp (hm.keep B1.out)
 go_enter Tryz.func56,Tryz.ntmps56
 go_upto_region 1 with fail
 generalize w.alloc (.cells #[.int .i8 x.kind,.string x.text,.slice A x.l.length c] 40)=w1 at *;generalize numR x=r at *;obtain ⟨r1,r2,r3⟩:=r;obtain ⟨q0,q1,q2,qf⟩:=Bk.c3 XB.out;go_wp2_with fail
 refine(HN.out w1 B1.out).mono ?_;rintro e w2 ⟨rfl,hb⟩;have B2:=kp (B1.out.trans (hb.mono B1.out.size));have HM2:=kp (hm.keep B2.out);clear hb q0 q1 q2 qf HM;obtain ⟨m0,m1,m2,m3,m4,m5,m6,m7,m8,mf⟩:=Bk.c9 HM2.out.blk
 by_cases h3:r3=0
 ·have h3':(r3 != 0)=false:=by simp [h3]
  have HR:=kp (HP.out w2 r1 st At ct rfl (by simp [h3]) (Keeps.of_below B2.out _) HM2.out (TN.refl _ _ _));clear h3;go_wp2_with fail
  exact HR.out
 ·have h3':(r3 != 0)=true:=by simp [h3]
  cases hbu:F.c.build with
  | false =>
   rw [hbu] at m5;have HR:=kp (HP.out w2 r1 st At ct rfl (by simp [hbu]) (Keeps.of_below B2.out _) HM2.out (TN.refl _ _ _));clear h3 hbu;go_wp2_with fail
   exact HR.out
  | true =>
   rw [hbu] at m5;have HS:=kp (show failS r3 st=if r3≠0/\F.c.build=true then failS r3 st else st by rw [if_pos ⟨h3,hbu⟩]);have HFl:=kp (fail_any hF HM2.out r3 h3);clear h3 hbu;go_wp2_with fail
   refine HFl.out.mono ?_;rintro e w5 ⟨rfl,hv,hk,A5,c5,hm5,ht5⟩;have HR:=kp (HP.out w5 r1 _ A5 c5 rfl HS.out ((Keeps.of_below B2.out _).trans_same hk) hm5 (ht5.mono B2.out.size));clear hv hk hm5 ht5;go_wp2_with fail
   exact HR.out
end El
namespace El
open Go.RowKit Dt Sg
def st0 (t:List Node):St:=⟨t,0,0⟩
def sortP (g:Sig) (env:Env) (x:Sexp):V × St:=termP ⟨g,0,false⟩ g.macros.length x env (st0 [])
def sortO (g:Sig) (env:Env) (x:Sexp):Int × Int :=
 if checkE g≠0\/x.may=false then(0,2)
 else if(sortP g env x).2.e=0 then((sortP g env x).1.1,0) else(0,(sortP g env x).2.e)
def envOf (vars:List Param):Env:=(vars.map fun p=>(p.name,(p.sort,(0:Int)))).reverse
def fitsO (g:Sig) (m:Macro):Int :=
 let s:=sortO g (envOf m.params) m.body
 if s.2=0/\s.1≠m.res then 33 else s.2
def makeP (g:Sig) (most:Int) (x:Sexp) (t:List Node):V × St:=termP ⟨g,most,true⟩ g.macros.length x [] (st0 t)
def termO (g:Sig) (t:List Node) (x:Sexp) (most:Int):List Node × Int × Int :=
 if tableE g t≠0 then([],0,2)
 else if(sortO g [] x).2≠0 then([],0,(sortO g [] x).2)
 else if(makeP g most x t).2.e≠0 then([],0,(makeP g most x t).2.e)
 else((makeP g most x t).2.t,(makeP g most x t).1.2,0)
def symX (s:ByteArray):Sexp:=.mk 0 s []
theorem isNum_sym (s:ByteArray):isNumX (symX s)=false:=by
 unfold isNumX numN symX;rw [if_neg (by show ¬ (0:Int)=1;decide),if_neg (by show ¬ ({ data:=#[] }:ByteArray)=sMinus;decide)]
 rfl
theorem table_parts {g:Sig} {t:List Node}:tableE g t=0 ↔ checkE g=0/\checkT t=true/\sortedB g t=true:=by
 unfold tableE checkTE
 by_cases h1:checkE g=0
 ·cases h2:checkT t with
  | true=>cases h3:sortedB g t <;> simp [h1]
  | false=>simp [h1]
 ·simp [h1]
theorem checkT_parts {t:List Node}:checkT t=true ↔ t.take 2=newT/\standsTo t t.length=true/\t.Nodup:=by
 unfold checkT;simp [Bool.and_eq_true,and_assoc]
theorem standsTo_at {t:List Node} {k:Nat} (h:standsTo t t.length=true) {n:Node} (hn:t[k]?=some n):standsN n k=true:=by
 unfold standsTo at h;rw [List.all_eq_true] at h;have:=h k (List.mem_range.2 (gqs hn).1)
 rwa [hn] at this
theorem check_push {t:List Node} {n:Node} (h:checkT t=true) (hs:standsN n t.length=true) (hn:n ∉ t):checkT (t ++ [n])=true:=by
 obtain ⟨h1,h2,h3⟩:=checkT_parts.1 h;have hl:2<=t.length:=by have:=congrArg List.length h1;rw [List.length_take] at this;simp [newT] at this;omega
 refine checkT_parts.2 ⟨by rw [List.take_append_of_le_length hl];exact h1,?_,?_⟩
 ·unfold standsTo;rw [List.all_eq_true];intro k hk;have hk:=List.mem_range.1 hk;rw [List.length_append,List.length_singleton] at hk
  by_cases hkl:k < t.length
  ·rw [List.getElem?_append_left hkl];have:=standsTo_at h2 (gqe hkl);rw [gqe hkl];exact this
  ·obtain rfl:k=t.length:=by omega
   rw [List.getElem?_append_right nlq];simp [hs]
 ·rw [List.nodup_append]
  exact ⟨h3, by simp, fun a ha b hb => by obtain rfl : b = n := by simpa using hb
                                          intro e;subst e;exact hn ha⟩
theorem sortProg_more {g:Sig} {t u:List Node} {n:Node} {k:Nat} (hs:standsN n k=true) (hk:k<=t.length) (hu:t <+: u):sortProg g u n=sortProg g t n:=by
 obtain ⟨r,rfl⟩:=hu
 have h:sortsTo (t ++ r) n n.len.toNat=sortsTo t n n.len.toNat:=by
  unfold sortsTo;refine List.map_congr_left fun i hi=>?_;have hi:=List.mem_range.1 hi;have hl:=stands_len hs;have ha:=stands_arg hs (i:=i) (by omega);rw [List.getD_eq_getElem?_getD,List.getD_eq_getElem?_getD,List.getElem?_append_left (by omega)]
 unfold sortProg;rw [h]
theorem table_push {g:Sig} {t:List Node} {n:Node} (h:tableE g t=0) (hs:standsN n t.length=true) (hn:n ∉ t) (hp:sortProg g t n=(n.sort,0)):tableE g (t ++ [n])=0:=by
 obtain ⟨h1,h2,h3⟩:=table_parts.1 h;refine table_parts.2 ⟨h1,check_push h2 hs hn,sortedB_all fun k m hk hm=>?_⟩;unfold sortedN
 by_cases hkl:k < t.length
 ·rw [List.getElem?_append_left hkl] at hm;have hst:=standsTo_at (checkT_parts.1 h2).2.1 hm;rw [sortProg_more hst (by omega) (List.prefix_append _ _)];unfold sortedB at h3;rw [List.all_eq_true] at h3;exact h3 m (mgq hm)
 ·rw [List.getElem?_append_right (by omega)] at hm
  have hk0:k - t.length=0:=by
   have:=(gqs hm).1;simp at this
   omega
  rw [hk0] at hm;obtain rfl:n=m:=by simpa using hm
  rw [sortProg_more hs nlq (List.prefix_append _ _),hp];simp
theorem put_ok {g:Sig} {most:Int} {t:List Node} {n:Node} (h:tableE g t=0) (hl:(t.length:Int)<=most) (hs:standsN n t.length=true) (hp:sortProg g t n=(n.sort,0)) :
  (∃ (u:List Node) (k:Nat),putT t n most=(u,(k:Int),0)/\t <+: u/\u[k]?=some n/\tableE g u=0/\(u.length:Int)<=most)\/putT t n most=([],0,40):=by
 obtain ⟨h1,h2,h3⟩:=table_parts.1 h;unfold putT;rw [h2,hs];simp only [Bool.and_self,if_true]
 by_cases hm:n ∈ t
 ·rw [if_pos hm];refine .inl ⟨t,_,rfl,List.prefix_refl _,?_,h,hl⟩;have hx:∃ x ∈ t,decide (x=n)=true:=⟨n,hm,by simp⟩;have hlt:=List.findIdx_lt_length_of_exists hx;have:=List.findIdx_getElem (p:=fun x=>decide (x=n)) (xs:=t) (w:=hlt);rw [gqe hlt,of_decide_eq_true this]
 ·rw [if_neg hm]
  by_cases hf:most<=t.length
  ·rw [if_pos hf];exact .inr rfl
  ·rw [if_neg hf];refine .inl ⟨t ++ [n],t.length,rfl,List.prefix_append _ _,by simp,table_push h hs hm hp,?_⟩;rw [List.length_append,List.length_singleton]
   omega
def ValIn (t:List Node) (v:V):Prop:=∃ (k:Nat) (x:Node),v.2=(k:Int)/\t[k]?=some x/\x.sort=v.1
theorem ValIn.more {t u:List Node} {v:V} (h:ValIn t v) (hu:t <+: u):ValIn u v:=by
 obtain ⟨k,x,h1,h2,h3⟩:=h;obtain ⟨r,rfl⟩:=hu;exact⟨k,x,h1,by rw [List.getElem?_append_left (gqs h2).1];exact h2,h3⟩
theorem ValIn.sorts {t:List Node} {v:V} (h:ValIn t v) (hc:checkT t=true):0<=v.1/\v.1 < 6:=by
 obtain ⟨k,x,h1,h2,h3⟩:=h;have hs:=standsTo_at (checkT_parts.1 hc).2.1 h2;rw [stands_split] at hs;unfold headOkB at hs;simp only [Bool.and_eq_true,decide_eq_true_eq] at hs;rw [← h3];exact⟨hs.1.1.1.1.2,hs.1.1.1.2⟩
theorem put_bound:∀ (l:List UInt8) (p:Int × Bool),0<=p.1/\p.1<=4611686018427387904->0<=(putAll p l).1/\(putAll p l).1<=4611686018427387904
 | [],p,h=>h
 | c :: r,p,h=>by
  refine put_bound r _ ?_;show 0<=(putN p ((c.toNat:Int) % 16)).1/\(putN p ((c.toNat:Int) % 16)).1<=_;unfold putN
  split
  ·exact h
  ·constructor
   ·have:0<=(c.toNat:Int) % 16:=by omega
    show 0<=p.1 * 10+_
    omega
   ·show p.1 * 10+_<=_
    omega
theorem parse_may (l:List UInt8):mayB (parseV l)=true/\mayB (-parseV l)=true:=by
 have h:=put_bound l (0,false) ⟨by decide,by decide⟩
 have hb:0<=parseV l/\parseV l<=4611686018427387904:=by
  unfold parseV
  split
  ·split
   ·exact⟨by decide,by decide⟩
   ·exact h
  ·exact⟨by decide,by decide⟩
 exact⟨mayB_iff.2 ⟨by omega,by omega⟩,mayB_iff.2 ⟨by omega,by omega⟩⟩
theorem may_neg {n:Int} (h:mayB n=true):mayB (-n)=true:=by
 have:=mayB_iff.1 h;exact mayB_iff.2 ⟨by omega,by omega⟩
theorem parse_err {l:List UInt8} (h:isNum l=true):parseE l=0\/parseE l=10:=by
 unfold parseE;rw [h,if_pos rfl]
 split
 ·exact .inr rfl
 ·exact .inl rfl
theorem numN_stands {x:Sexp} (hx:x.stands=true) {n e:Int} (h:numN x=some (n,e)):mayB n=true/\(e=0\/e=10):=by
 have one:∀ y:Sexp,y.stands=true->y.kind=1->isNum (Lx.bs y.text)=true:=by
  intro y hy hk;rw [Sexp.stands_eq,hk,if_neg (by decide),if_pos rfl,Bool.and_eq_true] at hy;have:=hy.2;unfold numB at this;rw [Bool.and_eq_true] at this;exact this.1
 unfold numN at h
 split at h
 ·rename_i hk
  simp only [Option.some.injEq,Prod.mk.injEq] at h;obtain ⟨rfl,rfl⟩:=h;exact⟨(parse_may _).1,parse_err (one x hx hk)⟩
 ·split at h
  ·split at h
   ·rename_i y hl
    split at h
    ·rename_i hk
     simp only [Option.some.injEq,Prod.mk.injEq] at h;obtain ⟨rfl,rfl⟩:=h;exact⟨(parse_may _).2,parse_err (one y (l_stands hx y (by rw [hl];simp)) hk)⟩
    ·cases h
   ·cases h
  ·cases h
theorem opS_facts {op:Int} {l:List Int} {s:Int} (h:opS op l=some s) (hl:∀ x ∈ l,0<=x/\x < 6):arityN op=some ((l.length:Int),(l.length:Int))/\op≠13/\l.length<=3/\0<=s/\s < 6:=by
 obtain ⟨h1,h2⟩:=opS_len h;unfold ruleK at h1;have ho:=of_decide_eq_true h1;have:op=0\/op=1\/op=2\/op=3\/op=4\/op=5\/op=6\/op=7\/op=8\/op=9\/op=10\/op=11\/op=12:=by omega
 have hs:s=0\/s=1\/s ∈ l:=by
  unfold opS at h
  repeat' split at h
  all_goals first
   | (cases h;done)
   | (simp only [Option.some.injEq] at h;subst h;first | exact .inl rfl | exact .inr (.inl rfl) | exact .inr (.inr (by simp)))
 have hs6:0<=s/\s < 6:=by
  rcases hs with rfl | rfl | hs
  ·decide
  ·decide
  ·exact hl s hs
 refine⟨?_,by omega,?_,hs6.1,hs6.2⟩
 ·rw [h2];rcases this with rfl | rfl | rfl | rfl | rfl | rfl | rfl | rfl | rfl | rfl | rfl | rfl | rfl <;> decide
 ·have h3:(ruleL op).1<=3:=by
   rcases this with rfl | rfl | rfl | rfl | rfl | rfl | rfl | rfl | rfl | rfl | rfl | rfl | rfl <;> decide
  omega
theorem nth_arg (l:List V) (i:Nat) (op len s fn n:Int) (hi:i < 3):Node.arg ⟨op,len,nthN l 0,nthN l 1,nthN l 2,s,fn,n⟩ i=nthN l i:=by
 have:i=0\/i=1\/i=2:=by omega
 rcases this with rfl | rfl | rfl <;> rfl
theorem nth_in {t:List Node} {l:List V} (h:∀ v ∈ l,ValIn t v) {i:Nat} (hi:i < l.length):∃ (v:V) (k:Nat) (x:Node),l[i]?=some v/\nthN l i=(k:Int)/\t[k]?=some x/\x.sort=v.1:=by
 have hg:=gqe hi;obtain ⟨k,x,h1,h2,h3⟩:=h l[i] (List.getElem_mem hi);exact⟨l[i],k,x,hg,by unfold nthN;rw [List.getD_eq_getElem?_getD,hg];exact h1,h2,h3⟩
theorem args_ok {t:List Node} {l:List V} (h:∀ v ∈ l,ValIn t v) (op s fn n:Int) {i:Nat} (hi:i < 3):argOkB ⟨op,(l.length:Int),nthN l 0,nthN l 1,nthN l 2,s,fn,n⟩ t.length i=true:=by
 unfold argOkB;rw [nth_arg l i _ _ _ _ _ hi]
 by_cases hl:i < l.length
 ·rw [if_pos (show(i:Int) < (l.length:Int) by omega)];obtain ⟨v,k,x,_,h1,h2,_⟩:=nth_in h hl;have:=(gqs h2).1;rw [h1];simp
  omega
 ·rw [if_neg (show ¬ (i:Int) < (l.length:Int) by omega)];have:nthN l i=0:=by unfold nthN;rw [List.getD_eq_getElem?_getD,List.getElem?_eq_none (by omega)];rfl
  rw [this]
  rfl
theorem sorts_ok {t:List Node} {l:List V} (h:∀ v ∈ l,ValIn t v) (h3:l.length<=3) (op s fn n:Int):sortsTo t ⟨op,(l.length:Int),nthN l 0,nthN l 1,nthN l 2,s,fn,n⟩ l.length=l.map Prod.fst:=by
 unfold sortsTo;refine List.ext_getElem? fun i=>?_;rw [List.getElem?_map,List.getElem?_map]
 by_cases hi:i < l.length
 ·obtain ⟨v,k,x,hv,h1,h2,h4⟩:=nth_in h hi;rw [hv,List.getElem?_range hi];simp only [Option.map_some];rw [nth_arg l i _ _ _ _ _ (by omega),h1,Int.toNat_natCast,List.getD_eq_getElem?_getD,h2];exact congrArg some h4
 ·rw [List.getElem?_eq_none (by simpa using hi),List.getElem?_eq_none (by omega)]
  rfl
theorem op_stands {t:List Node} {l:List V} {k n s:Int} (hc:checkT t=true) (h:∀ v ∈ l,ValIn t v) (ho:opS k (l.map Prod.fst)=some s) (hn:mayB n=true) (hk:n=0\/k=10\/k=11\/k=12) (g:Sig) :
  standsN ⟨k,l.length,nthN l 0,nthN l 1,nthN l 2,s,0,n⟩ t.length=true/\sortProg g t ⟨k,l.length,nthN l 0,nthN l 1,nthN l 2,s,0,n⟩=(s,0):=by
 have hl:∀ x ∈ l.map Prod.fst,0<=x/\x < 6:=by
  intro x hx;obtain ⟨v,hv,rfl⟩:=List.mem_map.1 hx;exact(h v hv).sorts hc
 obtain ⟨f1,f2,f3,f4,f5⟩:=opS_facts ho hl;rw [List.length_map] at f1 f3
 constructor
 ·unfold standsN;rw [show(Node.mk k l.length (nthN l 0) (nthN l 1) (nthN l 2) s 0 n).op=k from rfl,f1];simp only;rw [args_ok h k s 0 n (by decide),args_ok h k s 0 n (by decide),args_ok h k s 0 n (by decide)];simp only [Int.le_refl,and_self,decide_true,Bool.true_and,Bool.and_true];rw [decide_eq_true (show 0<=s/\s < 6 from⟨f4,f5⟩)];simp only [Bool.true_and];rcases hk with rfl | rfl | rfl | rfl
  ·split
   ·simp [hn]
   ·simp
  ·simpa using hn
  ·simpa using hn
  ·simpa using hn
 ·unfold sortProg;rw [if_neg f2];show opProg k (sortsTo t _ (Int.toNat (l.length:Int)))=_;rw [Int.toNat_natCast,sorts_ok h f3];exact opProg_some.1 s ho
theorem app_stands {g:Sig} {t:List Node} {l:List V} {f:Fun4} {k:Nat} (hg:checkE g=0) (h:∀ v ∈ l,ValIn t v) (hf:g.funs[k]?=some f) (hlen:(l.length:Int)=f.len) (hs:∀ i,i < l.length->(l.getD i v0).1=Fun4.arg f i) :
  standsN ⟨13,f.len,nthN l 0,nthN l 1,nthN l 2,f.res,k,0⟩ t.length=true/\sortProg g t ⟨13,f.len,nthN l 0,nthN l 1,nthN l 2,f.res,k,0⟩=(f.res,0):=by
 have hb:checkB g=true:=by
  unfold checkE at hg
  split at hg
  ·assumption
  ·cases hg
 unfold checkB at hb;simp only [Bool.and_eq_true,decide_eq_true_eq] at hb;obtain ⟨⟨⟨hs4,hf12⟩,_⟩,⟨_,hfs⟩,_⟩:=hb;have hkl:=(gqs hf).1;unfold allTo at hfs;rw [List.all_eq_true] at hfs;have hfo:=hfs k (List.mem_range.2 hkl);unfold funOk at hfo;rw [hf] at hfo;simp only [Bool.and_eq_true] at hfo;have hfb:=hfo.2;unfold funB thereB at hfb;simp only [Bool.and_eq_true,decide_eq_true_eq] at hfb;obtain ⟨⟨⟨⟨⟨h0,h3⟩,hr⟩,_⟩,_⟩,_⟩:=hfb;rw [← hlen]
 constructor
 ·unfold standsN;rw [show(Node.mk 13 l.length (nthN l 0) (nthN l 1) (nthN l 2) f.res k 0).op=13 from rfl,show arityN 13=some (0,3) from rfl];simp only;rw [args_ok h 13 f.res k 0 (by decide),args_ok h 13 f.res k 0 (by decide),args_ok h 13 f.res k 0 (by decide)];rw [decide_eq_true (show 0<=f.res/\f.res < 6 by omega),decide_eq_true (show(0:Int)<=l.length/\(l.length:Int)<=3 by omega),decide_eq_true (show(0:Int)<=k/\(k:Int) < 12 by omega)];simp
 ·unfold sortProg;rw [if_pos rfl];show appProg g k (sortsTo t _ (Int.toNat (l.length:Int)))=_;rw [Int.toNat_natCast,sorts_ok h (by omega)];unfold appProg;rw [if_neg (by omega),Int.toNat_natCast,hf];simp only;rw [List.length_map,if_neg (by simp [hlen]),if_pos];refine argsB_all fun i hi=>?_;rw [List.length_map] at hi;rw [← hs i hi,List.getD_eq_getElem?_getD,List.getD_eq_getElem?_getD,List.getElem?_map,gqe hi]
  rfl
theorem sorts_none:∀ (l:List V) (q:List Int) (st:St),st.e=0->sortsM l q st=st->∀ i,i < l.length->i < q.length->(l.getD i v0).1=q.getD i 0
 | [],_,_,_,_,i,hi,_=>by simp at hi
 | _ :: _,[],_,_,_,i,_,hq=>by simp at hq
 | v :: l,s :: q,st,h0,h,i,hi,hq=>by
  unfold sortsM at h
  by_cases hv:v.1=s
  ·rw [if_neg (by simp [hv])] at h
   cases i with
   | zero=>exact hv
   | succ i=>exact sorts_none l q st h0 h i (by simpa using hi) (by simpa using hq)
  ·exfalso
   rw [if_pos ⟨h0,hv⟩,sorts_stick l q _ (by show(33:Int)≠0;decide)] at h;have:=congrArg St.e h;simp [h0] at this
inductive RdAll:List UInt8->List Sexp->List UInt8->Prop
 | nil {l rest:List UInt8} (h:nextL (skipL false l)=.tok 1 [] rest):RdAll l [] rest
 | cons {l m rest:List UInt8} {x:Sexp} {xs:List Sexp} (hc:∀ t q,nextL (skipL false l)≠.tok 1 t q) (hx:Rd l x m) (hr:RdAll m xs rest):RdAll l (x :: xs) rest
theorem RdAll.places {l rest:List UInt8} {xs:List Sexp} (h:RdAll l xs rest):∃ f:Nat->List UInt8,f 0=l/\(∀ i,i < xs.length->∀ t q,nextL (skipL false (f i))≠.tok 1 t q)/\(∀ i x,xs[i]?=some x->Rd (f i) x (f (i+1)))/\nextL (skipL false (f xs.length))=.tok 1 [] rest:=by
 induction h with
 | @nil l rest h=>exact⟨fun _=>l,rfl,fun i hi=>by simp at hi,fun i x hx=>by simp at hx,h⟩
 | @cons l m rest x xs hc hx hr ih =>
  obtain ⟨f,h0,h1,h2,h3⟩:=ih;refine⟨fun i=>match i with | 0=>l | j+1=>f j,rfl,fun i hi=>?_,fun i y hy=>?_,h3⟩
  ·cases i with
   | zero=>exact hc
   | succ j=>exact h1 j (by simp at hi;omega)
  ·cases i with
   | zero =>
    obtain rfl:x=y:=by simpa using hy
    show Rd l x (f 0);rw [h0];exact hx
   | succ j=>exact h2 j y (by simpa using hy)
theorem Rd.of_all {l r rest:List UInt8} {xs:List Sexp} (h:nextL (skipL false l)=.tok 0 [] r) (ha:RdAll r xs rest):Rd l (.mk 3 { data:=#[] } xs) rest:=by
 obtain ⟨f,h0,h1,h2,h3⟩:=ha.places;exact .list f h h0 h1 h2 h3
def bX:ByteArray:={ data:=#[120] }
def bY:ByteArray:={ data:=#[121] }
def bF:ByteArray:={ data:=#[102] }
def bP:ByteArray:={ data:=#[112] }
def bS:ByteArray:={ data:=#[115] }
def b3:ByteArray:={ data:=#[51] }
def smallG:Sig:=⟨[{ data:=#[83] }],[⟨bX,0,0,0,0,1⟩,⟨bY,0,0,0,0,1⟩,⟨bF,1,1,0,0,1⟩,⟨bP,0,0,0,0,0⟩,⟨bS,0,0,0,0,2⟩],[]⟩
def txA:ByteArray:={ data:=#[40,60,61,32,40,45,32,120,32,121,41,32,51,41] }
def txB:ByteArray:={ data:=#[40,100,105,115,116,105,110,99,116,32,120,32,121,41] }
def txC:ByteArray:={ data:=#[40,43,32,120,32,121,41] }
def xA:Sexp:=.mk 3 { data:=#[] } [symX sLe,.mk 3 { data:=#[] } [symX sMinus,symX bX,symX bY],.mk 1 b3 []]
def xB:Sexp:=.mk 3 { data:=#[] } [symX sDistinct,symX bX,symX bY]
def xC:Sexp:=.mk 3 { data:=#[] } [symX sPlus,symX bX,symX bY]
theorem not_close {l:List UInt8} {k:Int} {t r:List UInt8} (h:nextL (skipL false l)=.tok k t r) (hk:k≠1):∀ t q,nextL (skipL false l)≠.tok 1 t q:=by
 intro t q e;rw [h] at e;simp only [Tk.tok.injEq] at e;exact hk e.1
theorem RdAll.sym {l t r rest:List UInt8} {s:ByteArray} {xs:List Sexp} (h:nextL (skipL false l)=.tok 2 t r) (hs:Lx.bs s=t) (hr:RdAll r xs rest):RdAll l (symX s :: xs) rest:=.cons (not_close h (by decide)) (.name h hs) hr
theorem rdA:Rd (from_ txA 0) xA []:=by
 refine Rd.of_all (r:=[60,61,32,40,45,32,120,32,121,41,32,51,41]) (by kernel_rfl) ?_;refine RdAll.sym (t:=[60,61]) (r:=[32,40,45,32,120,32,121,41,32,51,41]) (by kernel_rfl) (by kernel_rfl) ?_;refine .cons (m:=[32,51,41]) (not_close (k:=0) (t:=[]) (r:=[45,32,120,32,121,41,32,51,41]) (by kernel_rfl) (by decide)) ?_ ?_
 ·refine Rd.of_all (r:=[45,32,120,32,121,41,32,51,41]) (by kernel_rfl) ?_;refine RdAll.sym (t:=[45]) (r:=[32,120,32,121,41,32,51,41]) (by kernel_rfl) (by kernel_rfl) ?_;refine RdAll.sym (t:=[120]) (r:=[32,121,41,32,51,41]) (by kernel_rfl) (by kernel_rfl) ?_;refine RdAll.sym (t:=[121]) (r:=[41,32,51,41]) (by kernel_rfl) (by kernel_rfl) ?_;exact .nil (by kernel_rfl)
 ·refine .cons (m:=[41]) (not_close (k:=3) (t:=[51]) (r:=[41]) (by kernel_rfl) (by decide)) (.num (t:=[51]) (by kernel_rfl) (by kernel_rfl)) ?_;exact .nil (by kernel_rfl)
theorem rdB:Rd (from_ txB 0) xB []:=by
 refine Rd.of_all (r:=[100,105,115,116,105,110,99,116,32,120,32,121,41]) (by kernel_rfl) ?_;refine RdAll.sym (t:=[100,105,115,116,105,110,99,116]) (r:=[32,120,32,121,41]) (by kernel_rfl) (by kernel_rfl) ?_;refine RdAll.sym (t:=[120]) (r:=[32,121,41]) (by kernel_rfl) (by kernel_rfl) ?_;refine RdAll.sym (t:=[121]) (r:=[41]) (by kernel_rfl) (by kernel_rfl) ?_;exact .nil (by kernel_rfl)
theorem rdC:Rd (from_ txC 0) xC []:=by
 refine Rd.of_all (r:=[43,32,120,32,121,41]) (by kernel_rfl) ?_;refine RdAll.sym (t:=[43]) (r:=[32,120,32,121,41]) (by kernel_rfl) (by kernel_rfl) ?_;refine RdAll.sym (t:=[120]) (r:=[32,121,41]) (by kernel_rfl) (by kernel_rfl) ?_;refine RdAll.sym (t:=[121]) (r:=[41]) (by kernel_rfl) (by kernel_rfl) ?_;exact .nil (by kernel_rfl)
def ansB (o:List Node × Int × Int) (p:Node->Bool):Bool:=decide (o.2.2=0) && decide (0<=o.2.1) && (match o.1[o.2.1.toNat]? with | some n=>p n | none=>false)
theorem ansB_out {o:List Node × Int × Int} {p:Node->Bool} (h:ansB o p=true):o.2.2=0/\∃ k:Nat,o.2.1=k/\∃ n,o.1[k]?=some n/\p n=true:=by
 unfold ansB at h;simp only [Bool.and_eq_true,decide_eq_true_eq] at h;obtain ⟨⟨h1,h2⟩,h3⟩:=h;obtain ⟨k,hk⟩:=Int.eq_ofNat_of_zero_le h2;rw [hk] at h3;refine⟨h1,k,hk,?_⟩
 cases hn:o.1[k]? with
 | none=>simp [hn] at h3
 | some n=>exact⟨n,rfl,by simpa [hn] using h3⟩
theorem ansA:ansB (termO smallG newT xA 200) (fun n=>decide (n.op=12) && decide (n.n=3))=true:=by decide +kernel
theorem ansBd:ansB (termO smallG newT xB 200) (fun n=>decide (n.op=1))=true:=by decide +kernel
theorem ansC:(termO smallG newT xC 200).2.2=34:=by decide +kernel
end El
end Go.Proofs.YtpmdcckapddchaaGreatDoor
