import Derived.Test.YtmcbolkpbklfeaaGreatDoorShort
import Derived.Test.YtmcbolkpbklfeaaGreatDoorMf
import Derived.Lib.Strings
import Derived.Test.YtmcbolkpbklfeaaGreatDoorMd
import Derived.Test.YtmcbolkpbklfeaaGreatDoorShelf
import Derived.TacticsIn
import Derived.RangeFuncBound
import Derived.LoopIn
import Derived.BigFrameIn
import Derived.Shelf.Strings.SlTrimAscii
import Derived.BigQuiet
/- merged by wip/merge.py from: BnRMet BnLines BnProbs -/
set_option maxRecDepth 100000
set_option maxHeartbeats 51200000
namespace Go.Proofs.YtmcbolkpbklfeaaGreatDoor
namespace Bn
open Go Go.RowKit Dt
theorem rbegins_any (a b:ByteArray) (w:World):Calls Tryz.prog 12 #[.string a,.string b] w fun e w'=>e=.returned (.bool (Lib.hasPrefix (Lx.bs a) (Lx.bs b)))/\w'=w:=by
 have hraw:Lib.hasPrefix (Lx.bs a) (Lx.bs b)=(decide (b.size<=a.size) && ((a.extract 0 b.size).toList == b.toList)):=by
  have:=Lib.hasPrefix_raw a b
  first
  | exact this
  | (unfold Lx.bs;rw [this])
 rw [hraw]
 by_cases h:b.size<=a.size
 ·have h1:(b.size:Int)<=(a.size:Int):=by omega
  have h2:decide (b.size<=a.size)=true:=decide_eq_true h;rw [h2,Bool.true_and]
  go_enter Tryz.func12,Tryz.ntmps12
  go_wp2_with fail
  go_ret;exact⟨rfl,rfl⟩
 ·have h1:¬ (b.size:Int)<=(a.size:Int):=by omega
  have h2:decide (b.size<=a.size)=false:=dfq h;rw [h2,Bool.false_and]
  go_enter Tryz.func12,Tryz.ntmps12
  go_wp2_with fail
  go_ret;exact⟨rfl,rfl⟩
theorem rmet_any (k n:Int) (hk:-128<=k/\k<=127) (hn:I64 n) (t:ByteArray) (rs:List ByteArray) (A:Option Addr) (c:Nat) (w:World) (h:Lies 1 StrR w A rs) (hl:(rs.length:Int)<=1000000000000) :
  Calls Tryz.prog 6 #[.agg #[.int .i8 k,.int .i64 n,.string t],.slice A rs.length c] w fun e w'=>e=.returned (.bool (metI k n (Lx.bs t) (rs.map Lx.bs)))/\Below w.heap.size w w':=by
 have B1:=kp ((brq w).alloc nlq (.cells #[.int .i8 k,.int .i64 n,.string t] 24));have X1:=kp (Bk.new w (.cells #[.int .i8 k,.int .i64 n,.string t] 24));have R1:=kp (h.on StrR.lasts B1.out);clear h;obtain ⟨hn1,hn2⟩:=hn
 by_cases hin:1<=n/\n<=rs.length
 ·obtain ⟨r,hr,hv⟩:=ansV_yes hin;have hr2:(rs.map Lx.bs)[(n - 1).toNat]?=some (Lx.bs r):=by rw [List.getElem?_map,hr];rfl
  have HM:=kp (metI_at (k:=k) (t:=Lx.bs t) hin.1 (by rw [List.length_map];exact hin.2) hr2);obtain ⟨m,rfl⟩:∃ m:Nat,n=(m:Int)+1:=⟨(n - 1).toNat,by omega⟩;have hm:m < rs.length:=by omega
  obtain ⟨b,o,rfl,hc,hsz⟩:=row_at R1.out hm
  have hrm:rs[m]=r:=by
   rw [show((m:Int)+1 - 1).toNat=m by omega,gqe hm] at hr;exact Option.some.inj hr
  rw [hrm] at hc;have hmi:(m:Int)+1<=(rs.length:Int):=by omega
  have hmj:(m:Int) < (rs.length:Int):=by omega
  have h1:¬ ((m:Int)+1 < 1):=by omega
  have HC:=kp hc;clear hr hr2 hv hin R1 hrm hc hsz hm hn1 hn2;generalize rs.length=z at *
  go_enter Tryz.func6,Tryz.ntmps6
  go_upto_region 1 with fail
  generalize w.alloc (.cells #[.int .i8 k,.int .i64 ((m:Int)+1),.string t] 24)=w1 at *;obtain ⟨k0,n0,t0,f0⟩:=Bk.c3 X1.out;have hc:=HC.out
  by_cases c0:k=0
  ·have HV:=kp (HM.out.trans (if_pos c0));subst c0;go_wp2_with fail
   go_ret;exact⟨ret_bool ((bytes_eqB' r t).trans HV.out.symm),B1.out⟩
  by_cases c1:k=1
  ·have HV:=kp (HM.out.trans ((if_neg c0).trans (if_pos c1)));subst c1;go_wp2_with fail
   go_ret;exact⟨ret_bool ((congrArg (!·) (bytes_eqB' r t)).trans HV.out.symm),B1.out⟩
  by_cases c2:k=2
  ·have HV:=kp (HM.out.trans ((if_neg c0).trans ((if_neg c1).trans (if_pos c2))));have HP:=kp (fun W=>rbegins_any r t W);subst c2
   go_wp2_with (go_at_call 12;refine(HP.out _).mono ?_;rintro e w2 ⟨rfl,rfl⟩)
   go_ret;exact⟨ret_bool HV.out.symm,B1.out⟩
  ·have HV:=kp (HM.out.trans ((if_neg c0).trans ((if_neg c1).trans (if_neg c2))));have d0:(k == 0)=false:=by simpa using c0
   have d1:(k == 1)=false:=by simpa using c1
   have d2:(k == 2)=false:=by simpa using c2
   go_wp2_with fail
   go_ret;exact⟨ret_bool HV.out.symm,B1.out⟩
 ·have HM:=kp (metI_out (k:=k) (t:=Lx.bs t) (show ¬ (1<=n/\n<=(rs.map Lx.bs).length) by rw [List.length_map];exact hin))
  go_enter Tryz.func6,Tryz.ntmps6
  go_upto_region 1 with fail
  generalize w.alloc (.cells #[.int .i8 k,.int .i64 n,.string t] 24)=w1 at *;obtain ⟨k0,n0,t0,f0⟩:=Bk.c3 X1.out
  by_cases h1:n < 1
  ·go_wp2_with fail
   go_ret;exact⟨ret_bool HM.out.symm,B1.out⟩
  ·have h2:(rs.length:Int) < n:=by omega
   go_wp2_with fail
   go_ret;exact⟨ret_bool HM.out.symm,B1.out⟩
attribute [local go_sem] Oper.semAt_some
abbrev ItemOf (s:ByteArray):={ x:Nat × ByteArray // x ∈ itemsAt s 0 }
def encI {s:ByteArray} (x:ItemOf s):Array Value:=#[.agg #[.int .i64 x.1.1,.string x.1.2]]
theorem item_bounds {s:ByteArray}:∀ (n p:Nat),s.size - p<=n->∀ x ∈ itemsAt s p,p<=x.1/\x.1 < s.size/\x.2=s.extract x.1 (x.1+lineN (from_ s x.1))
 | 0,p,_,x,hx=>by rw [itemsAt_end (by omega)] at hx;cases hx
 | n+1,p,_,x,hx=>by
  by_cases hp:p < s.size
  ·have hn:=lineN_at hp;rw [itemsAt_cons hp] at hx;rcases List.mem_cons.1 hx with rfl | hx
   ·exact⟨nlq,hp,rfl⟩
   ·have:=item_bounds n _ (by omega) x hx;exact⟨by omega,this.2⟩
  ·rw [itemsAt_end (by omega)] at hx;cases hx
theorem index_lineN {l:List UInt8} (_:l≠[]):(Lib.indexByte l 10=-1/\lineN l=l.length)\/(0<=Lib.indexByte l 10/\(lineN l:Int)=Lib.indexByte l 10+1):=by
 rcases index_in l 10 with e | ⟨h1,h2⟩
 ·exact .inl ⟨e,by unfold lineN;rw [e,if_pos (by decide)]⟩
 ·exact .inr ⟨h1,by unfold lineN;rw [if_neg (by omega)];omega⟩
def KeptTo (n0 rb:Nat) (W W':World):Prop:=W.heap.size<=W'.heap.size/\∀ b,b < n0->b≠rb->W'.heap[b]?=W.heap[b]?
theorem KeptTo.refl (n0 rb:Nat) (W:World):KeptTo n0 rb W W:=⟨nlq,fun _ _ _=>rfl⟩
theorem KeptTo.trans {n0 rb:Nat} {A B C:World} (h:KeptTo n0 rb A B) (k:KeptTo n0 rb B C):KeptTo n0 rb A C:=⟨Nat.le_trans h.1 k.1,fun b h1 h2=>(k.2 b h1 h2).trans (h.2 b h1 h2)⟩
theorem KeptTo.put {n0 rb:Nat} {w:World} (hn:n0<=w.heap.size) (W:World) (l:Nat) (o o':Obj) (_:w.heap.size<=l) (_:W.heap[l]?=some o) (_:o.isCells=false) (_:o.isWalk=false):KeptTo n0 rb W (W.putObj l o'):=⟨by simp,fun b h1 _=>World.putObj_heap_other (by omega)⟩
theorem KeptTo.cell {n0 rb:Nat} {W W':World} (h:KeptTo n0 rb W W') {b o:Nat} (hb:b < n0) (hr:b≠rb):W'.cell? ⟨b,o,none⟩=W.cell? ⟨b,o,none⟩:=World.cell?_of_block (h.2 b hb hr)
theorem KeptTo.of_below {n0 rb:Nat} {W W':World} (h:Below n0 W W'):KeptTo n0 rb W W':=⟨h.size,fun b h1 _=>h.block b h1⟩
theorem KeptTo.drewN (n0 rb:Nat) (W:World) (m:Nat):KeptTo n0 rb W (W.drewN m):=⟨nlq,fun _ _ _=>rfl⟩
theorem items_next {s:ByteArray} {p:Nat} {pre:List (Nat × ByteArray)} (h:itemsAt s 0=pre ++ itemsAt s p) (hp:p < s.size):∃ x:ItemOf s,x.1=(p,s.extract p (p+lineN (from_ s p)))/\itemsAt s 0=(pre ++ [x.1]) ++ itemsAt s (p+lineN (from_ s p)):=by
 have hc:=itemsAt_cons hp;refine⟨⟨(p,s.extract p (p+lineN (from_ s p))),by rw [h,hc];simp⟩,rfl,?_⟩;exact h.trans ((congrArg (pre ++ ·) hc).trans (by simp))
theorem lines_stops {n0 rb Bs:Nat} {w:World} {s:ByteArray} (hb:w.cell? ⟨Bs,0,none⟩=some (.string s)) (hlt:Bs < n0) (hne:Bs≠rb) (hn0:n0<=w.heap.size) (hs:(s.size:Int)<=1000000000) :
  SeqStopsK Fence.wide 9 Tryz.prog 27 #[.pointer (some ⟨Bs,0,none⟩)] (encI (s:=s)) (KeptTo n0 rb) (fun xs=>xs.map Subtype.val=itemsAt s 0) (fun pre=>pre.map Subtype.val <+: itemsAt s 0) (itemsAt s 0).length w:=fun l J Jx W hW hJ hJx hY h0=>by
 have hbW:W.cell? ⟨Bs,0,none⟩=some (.string s):=(World.cell?_of_block (hW.block Bs (by omega))).trans hb;have HY:=kp hY;have hsz:W.heap.size<=W.heap.size:=nlq;refine callsIn_of_wp Tryz.func27 rfl trivial ?_ rfl;simp only [Tryz.ntmps27,List.size_toArray,List.length_cons,List.length_nil,Nat.reduceAdd,Nat.reduceSub,Array.replicate_succ,Array.replicate_zero,List.push_toArray,List.append_toArray,List.nil_append,List.cons_append]
 gi_wp2
 gi_loopw [3] (fun p wr=>∃ (q:Nat) (pre:List (ItemOf s)),p=.int .i64 q/\q<=s.size/\itemsAt s 0=pre.map Subtype.val ++ itemsAt s q/\J pre wr/\wr.cell? ⟨Bs,0,none⟩=some (.string s)) (fun p _=>s.size - (intOf p).toNat)
 case atStart=>exact⟨0,[],rfl,Nat.zero_le _,rfl,h0,hbW⟩
 case round =>
  obtain ⟨q,pre,rfl,hq,hpre,hj,hc⟩:=hrel;have HJ:=kp hj;have HP:=kp hpre;clear hj hpre
  by_cases hqs:q < s.size
  ·have hqi:(q:Int) < (s.size:Int):=by omega
   have HI:=kp (Tryz.strings_IndexByte (s.extract q s.size) 10 wr);rw [drop_from,show(10:Int).toNat.toUInt8=10 from rfl] at HI;have hn:=lineN_at hqs;obtain ⟨x,hx,hnx⟩:=items_next HP.out hqs
   have hpl:pre.length < (itemsAt s 0).length:=by
    rw [hnx,List.length_append,List.length_append,List.length_map];simp
    omega
   have HR:=HY.out pre x wr HJ.out hpl;have HPx:=kp (show itemsAt s 0=(pre ++ [x]).map Subtype.val ++ itemsAt s (q+lineN (from_ s q)) by rw [List.map_append];exact hnx);unfold encI at HR;rw [hx] at HR
   dsimp only at HR
   have hsub:(q:Int)+(lineN (from_ s q):Int)<=(s.size:Int):=by omega
   have h1:(1:Int)<=(lineN (from_ s q):Int):=by omega
   generalize pre ++ [x]=pre' at *;have HE:=kp (index_lineN (show from_ s q≠[] by rw [from_at hqs];simp));have HL:=kp (from_len s q);generalize Lib.indexByte (from_ s q) 10=ix at *;obtain ⟨fn,tmps,assign,body,hy,hR⟩:=HR;have HRo:=kp hR;clear hR hx hnx hpl;have hlast:∀ W3:World,J pre' W3->KeptTo n0 rb wr W3->W3.cell? ⟨Bs,0,none⟩=some (.string s):=fun W3 _ hk=>(hk.cell hlt hne).trans hc;rcases HE.out with⟨rfl,hl⟩ | ⟨hix,hl⟩
   ·have hm:(lineN (from_ s q):Int)=(s.size:Int) - (q:Int):=by have:=HL.out;omega
    rw [hm] at hsub h1;have e1:q+lineN (from_ s q)=s.size:=by omega
    rw [e1] at hy;generalize lineN (from_ s q)=m at *
    gi_wp2
    refine⟨trivial,?_⟩;refine(callsIn_wide.2 HI.out).mono ?_;rintro e w2 ⟨rfl,rfl⟩
    gi_wp2
    refine HRo.out.mono ?_;rintro e W3 (⟨rfl,hj3,hk3⟩ | ⟨rfl,hj3⟩)
    ·have hc3:=hlast W3 hj3 hk3;have HJ3:=kp hj3
     gi_wp2
     go_roundw
     case rel=>exact⟨q+m,pre',by go_num,by omega,HPx.out,HJ3.out,hc3⟩
     case measure=>simp [intOf];omega
    ·gi_wp2
     refine bodyPost_ret (results_none rfl _ _ _) rfl ?_;exact⟨⟨_,rfl⟩,.inr ⟨pre',⟨_,HPx.out.symm⟩,hj3⟩⟩
   ·generalize lineN (from_ s q)=m at *;have hne0:((ix+1 == 0):Bool)=false:=by simp;omega
    have e1:q+m=((q:Int)+(ix+1)).toNat:=by omega
    rw [e1] at hy
    gi_wp2
    refine⟨trivial,?_⟩;refine(callsIn_wide.2 HI.out).mono ?_;rintro e w2 ⟨rfl,rfl⟩
    gi_wp2
    refine HRo.out.mono ?_;rintro e W3 (⟨rfl,hj3,hk3⟩ | ⟨rfl,hj3⟩)
    ·have hc3:=hlast W3 hj3 hk3;have HJ3:=kp hj3
     gi_wp2
     go_roundw
     case rel=>exact⟨q+m,pre',by go_num,by omega,HPx.out,HJ3.out,hc3⟩
     case measure=>simp [intOf];omega
    ·gi_wp2
     refine bodyPost_ret (results_none rfl _ _ _) rfl ?_;exact⟨⟨_,rfl⟩,.inr ⟨pre',⟨_,HPx.out.symm⟩,hj3⟩⟩
  ·have hqi:¬ (q:Int) < (s.size:Int):=by omega
   gi_wp2
   go_end0
   exact⟨⟨_,rfl⟩,.inl ⟨pre,by have h1:=HP.out;rw [itemsAt_end (s:=s) (p:=q) (by omega),List.append_nil] at h1;exact h1.symm,HJ.out⟩⟩
attribute [local go_sem] Oper.semAt_some
def valP (p:Pb):List Value:=[.string ⟨p.1.toArray⟩,.string ⟨p.2.toArray⟩]
theorem valP_len (p:Pb):(valP p).length=2:=rfl
theorem valP_one (p:Pb):∀ u ∈ valP p,u.oneCell'=true:=fun u hu=>by
 unfold valP at hu;simp only [List.mem_cons,List.mem_nil_iff,or_false] at hu;rcases hu with rfl | rfl <;> rfl
theorem valP_set (p:Pb) (t:ByteArray):valP (p.1,p.2 ++ Lx.bs t)=(valP p).set 1 (.string ((⟨p.2.toArray⟩:ByteArray) ++ t)):=by
 have e:(⟨(p.2 ++ Lx.bs t).toArray⟩:ByteArray)=(⟨p.2.toArray⟩:ByteArray) ++ t:=Lx.bs_inj.1 ((Lx.bs_mk _).trans ((congrArg (· ++ Lx.bs t) (Lx.bs_mk p.2).symm).trans (Lx.bs_append _ _).symm));show [Value.string ⟨p.1.toArray⟩,Value.string ⟨(p.2 ++ Lx.bs t).toArray⟩]=_;rw [e]
 rfl
theorem trimP_le (l p:List UInt8):(Lib.trimPrefix l p).length<=l.length:=by
 unfold Lib.trimPrefix
 split
 ·rw [List.length_drop];exact Nat.sub_le _ _
 ·exact nlq
theorem trimX_le (l p:List UInt8):(Lib.trimSuffix l p).length<=l.length:=by
 unfold Lib.trimSuffix
 split
 ·rw [List.length_take];exact Nat.min_le_right _ _
 ·exact nlq
theorem trim_le (l:List UInt8):(Lib.trimPrefix (Lib.trimSuffix l [10]) [61,61,32]).length<=l.length:=Nat.le_trans (trimP_le _ _) (trimX_le _ _)
theorem tyP:PTy 28 31 2 32:=⟨Tryz.underlying28,⟨.agg #[.string ⟨#[]⟩,.string ⟨#[]⟩],by kernel_rfl,rfl⟩,by decide,by decide⟩
def probsL (ls:List (List UInt8)):List Pb:=ls.foldl (stepP nameL) []
def lineBs {s:ByteArray} (pre:List (ItemOf s)):List (List UInt8):=pre.map (fun x=>Lx.bs x.1.2)
theorem lineBs_snoc {s:ByteArray} (pre:List (ItemOf s)) (x:ItemOf s):lineBs (pre ++ [x])=lineBs pre ++ [Lx.bs x.1.2]:=by unfold lineBs;rw [List.map_append];rfl
theorem probsL_snoc (ls:List (List UInt8)) (l:List UInt8):probsL (ls ++ [l])=stepP nameL (probsL ls) l:=by unfold probsL;rw [List.foldl_append];rfl
theorem addLast_len:∀ (out:List Pb) (l:List UInt8),(addLast out l).length=out.length
 | [],_=>rfl
 | [_],_=>rfl
 | _ :: q :: r,l=>by
  show(addLast (q :: r) l).length+1=_;rw [addLast_len (q :: r) l]
  rfl
theorem addLast_set:∀ (out:List Pb) (l:List UInt8) (p:Pb),out[out.length - 1]?=some p->addLast out l=out.set (out.length - 1) (p.1,p.2 ++ l)
 | [],_,_,h=>by simp at h
 | [a],l,p,h=>by
  obtain rfl:a=p:=by simpa using h
  rfl
 | a :: q :: r,l,p,h=>by
  show a :: addLast (q :: r) l=_;rw [addLast_set (q :: r) l p (by simpa using h)]
  rfl
theorem addLast_mem:∀ (out:List Pb) (l:List UInt8) (p:Pb),p ∈ addLast out l->∃ q ∈ out,p.2.length<=q.2.length+l.length
 | [],_,_,h=>by cases h
 | [a],l,p,h=>by
  obtain rfl:p=(a.1,a.2 ++ l):=by simpa [addLast] using h
  exact⟨a,by simp,by simp⟩
 | a :: q :: r,l,p,h=>by
  rcases List.mem_cons.1 h with rfl | h
  ·exact⟨p,by simp,by omega⟩
  ·obtain ⟨z,hz,hl⟩:=addLast_mem (q :: r) l p h;exact⟨z,by simp [List.mem_cons.1 hz],hl⟩
theorem fold_small {m:Nat}:∀ (ls:List (List UInt8)) (acc:List Pb) (k:Nat),(∀ l ∈ ls,l.length<=m)->acc.length<=k->(∀ p ∈ acc,p.2.length<=k * m) ->
  (ls.foldl (stepP nameL) acc).length<=k+ls.length/\∀ p ∈ ls.foldl (stepP nameL) acc,p.2.length<=(k+ls.length) * m
 | [],acc,k,_,h1,h2=>⟨h1,h2⟩
 | l :: ls,acc,k,h,h1,h2=>by
  have hl:=h l (by simp);rw [List.foldl_cons,List.length_cons,show k+(ls.length+1)=(k+1)+ls.length by omega];refine fold_small ls _ (k+1) (fun z hz=>h z (by simp [hz])) ?_ ?_
  ·unfold stepP
   split
   ·simp;omega
   ·rw [addLast_len];omega
  ·intro p hp;rw [Nat.succ_mul];unfold stepP at hp
   split at hp
   ·rcases List.mem_append.1 hp with hp | hp
    ·have:=h2 p hp;omega
    ·obtain rfl:p=(nameL l,[]):=by simpa using hp
     simp
   ·obtain ⟨q,hq,hle⟩:=addLast_mem _ _ _ hp;have:=h2 q hq
    omega
theorem probsL_small {m:Nat} (ls:List (List UInt8)) (h:∀ l ∈ ls,l.length<=m):(probsL ls).length<=ls.length/\∀ p ∈ probsL ls,p.2.length<=ls.length * m:=by
 have:=fold_small ls [] 0 h nlq (fun p hp=>by cases hp);rw [Nat.zero_add] at this;exact this
structure PW (w W:World) (out:List Pb):Prop where
 box:∃ A c,W.heap[w.heap.size]?=some (.cells #[.slice A out.length c] 28 (0,0))/\PRow valP 31 2 (w.heap.size+2) W (.slice A out.length c) out
 size:w.heap.size+2<=W.heap.size
 below:Below w.heap.size w W
theorem own_pw {β:Type} {w:World} {B:Nat} {f:β->List Pb} (hB:w.heap.size<=B):OwnFrom B (fun(s:β) W=>PW w W (f s)):=fun s W W' row hs hg hr=>by
 have hk:=CellsKept.own hg hr;obtain ⟨A,c,hb,hp⟩:=hs.box;exact⟨⟨A,c,hk.2 _ _ _ _ hb,hp.kept hk⟩,Nat.le_trans hs.size hg.size,hs.below.grown hg hs.below.size (fun j e=>Nat.le_trans hB (hr j e).1)⟩
theorem PW.on {w W W':World} {out:List Pb} (h:PW w W out) (hb:Below W.heap.size W W'):PW w W' out:=by
 obtain ⟨A,c,h1,h2⟩:=h.box;exact⟨⟨A,c,Bk.on h1 hb,h2.below hb⟩,Nat.le_trans h.size hb.size,h.below.trans (hb.mono h.below.size)⟩
theorem items_len {s:ByteArray}:∀ (n p:Nat),s.size - p<=n->(itemsAt s p).length<=s.size - p
 | 0,p,_=>by rw [itemsAt_end (by omega)];simp
 | n+1,p,_=>by
  by_cases hp:p < s.size
  ·have hn:=lineN_at hp;rw [itemsAt_cons hp,List.length_cons];have:=items_len (s:=s) n (p+lineN (from_ s p)) (by omega)
   omega
  ·rw [itemsAt_end (by omega)];simp
def LineAx (w:World) (s:ByteArray) (Bs:Nat) (x:ItemOf s) (a:Act) (W:World):Prop:=∃ Bx,w.heap.size+2<=Bx/\W.heap[Bx]?=some (.cells #[.int .i64 x.1.1,.string x.1.2] 46 (0,0))/\Bs=w.heap.size+1 /\
 a={ tmps:=#[.string s,undef,.pointer (some ⟨w.heap.size,0,none⟩),.pointer (some ⟨Bx,0,none⟩),undef,undef,.string s,.func (.func 27) #[] #[.pointer (some ⟨Bs,0,none⟩)],.agg #[.int .i64 x.1.1,.string x.1.2],undef,undef,undef,undef,undef,undef,undef,undef,undef,undef,undef,undef,undef,undef,undef,undef,undef,undef,undef,undef,undef,undef,undef,undef,undef,undef,undef,undef,undef,undef,undef,undef],defers:=[] }
theorem own_ax {w:World} {s:ByteArray} {Bs B:Nat} (x:ItemOf s) (a:Act):OwnFrom B (fun(_:Unit) W=>LineAx w s Bs x a W):=fun _ W W' row hs hg hr=>by
 obtain ⟨Bx,h1,h2,h3,h4⟩:=hs;exact⟨Bx,h1,(CellsKept.own hg hr).2 _ _ _ _ h2,h3,h4⟩
theorem lines_any (s:ByteArray) (w:World):Calls Tryz.prog 13 #[.string s] w fun e w'=>e=.returned (.func (.func 27) #[] #[.pointer (some ⟨w.heap.size,0,none⟩)])/\w'=w.alloc (.cells #[.string s] 9):=by
 go_enter Tryz.func13,Tryz.ntmps13
 go_wp2_with fail
 go_ret;exact⟨rfl,rfl⟩
theorem problems_any (s:ByteArray) (hs:s.size<=1000000) (w:World):Calls Tryz.prog 7 #[.string s] w fun e w'=>∃ A c,e=.returned (.slice A (problemsL nameL (Lx.bs s)).length c)/\PRow valP 31 2 w.heap.size w' (.slice A (problemsL nameL (Lx.bs s)).length c) (problemsL nameL (Lx.bs s))/\Below w.heap.size w w':=by
 refine calls_marks Tryz.func7 rfl ?_;simp only [Tryz.ntmps7,List.size_toArray,List.length_cons,List.length_nil,Nat.reduceAdd,Nat.reduceSub,Array.replicate_succ,Array.replicate_zero,List.push_toArray,List.append_toArray,List.nil_append,List.cons_append];go_upto_region 1 with fail
 have X1:=kp (Bk.new w (.cells #[.slice none 0 0] 28));have B1:=kp ((brq w).alloc nlq (.cells #[.slice none 0 0] 28));have hz1:(w.alloc (.cells #[.slice none 0 0] 28)).heap.size=w.heap.size+1:=by simp
 generalize w.alloc (.cells #[.slice none 0 0] 28)=w1 at *;go_wp2_with fail
 refine(lines_any s w1).mono ?_;rintro e w2 ⟨rfl,rfl⟩;have X2:=kp (Bk.keep X1.out (.cells #[.string s] 9));have Y2:=kp (Bk.new w1 (.cells #[.string s] 9));rw [hz1] at Y2;have B2:=kp (B1.out.alloc (by omega) (.cells #[.string s] 9));have hz2:(w1.alloc (.cells #[.string s] 9)).heap.size=w.heap.size+2:=by simp;omega
 generalize w1.alloc (.cells #[.string s] 9)=w2 at *;go_wp2_with fail
 refine wp_rangeH (α:=ItemOf s) (gf:=27) (lb:=#[.pointer (some ⟨w.heap.size+1,0,none⟩)]) rfl (enters_of Tryz.func27 (by kernel_rfl) rfl)
  (lines_stops (n0:=w2.heap.size) (rb:=w.heap.size) (Bk.c1 Y2.out).1 (by omega) (by omega) nlq (by omega)) (fun h k=>KeptTo.trans h k) (KeptTo.put nlq) (fun _=>rfl)
  (fun pre W=>PW w W (probsL (lineBs pre))/\KeepsFrom 0 w2 W) (fun _ _ _=>False) (OwnFrom.and (own_pw (by omega)) (ownFrom_keepsFrom nlq)) (fun _ _ _ _ _ hs _ _=>hs) ⟨⟨⟨none,0,X2.out,PRow.nil _ _ _ _ _⟩,by omega,B2.out⟩,KeepsFrom.refl _ _⟩
  (LineAx w s (w.heap.size+1)) (fun x a'=>own_ax x a') ?assign ?body ?done ?stop
 case assign =>
  rintro l pre x W K ⟨hp,hk⟩ hK;unfold encI
  gi_wp2
  have hb:=(brq W).alloc nlq (.cells #[.int .i64 (x.1.1:Int),.string x.1.2] 46);have hsz:=hp.size;exact hK _ _ ((KeepsOthers.alloc _ _).from _) (KeptTo.of_below (hb.mono (by omega))) ⟨hp.on hb,hk.trans ((KeepsOthers.alloc _ _).from 0)⟩ ⟨_,by omega,Bk.new W _,rfl,rfl⟩
 case body =>
  rintro l pre x a' W ⟨hp,hk⟩ ⟨Bx,hB,hX,_,rfl⟩ hlen;have hxb:=item_bounds s.size 0 (by omega) x.1 x.2;have hls:x.1.2.size<=s.size:=by rw [hxb.2.2,ByteArray.size_extract];omega
  have HSn:=kp (show probsL (lineBs (pre ++ [x]))=stepP nameL (probsL (lineBs pre)) (Lx.bs x.1.2) by rw [lineBs_snoc,probsL_snoc])
  have HSm:=kp (probsL_small (m:=s.size) (lineBs pre) (fun z hz=>by
   unfold lineBs at hz;obtain ⟨y,_,rfl⟩:=List.mem_map.1 hz;have hy:=item_bounds s.size 0 (by omega) y.1 y.2;rw [Lx.bs_length,hy.2.2,ByteArray.size_extract]
   omega))
  have HLn:=kp (show(lineBs pre).length<=1000000 from by
   have:=items_len (s:=s) s.size 0 (by omega);unfold lineBs;rw [List.length_map]
   omega)
  have HPW:=kp hp;have HK:=kp hk;clear hxb hlen hp hk;obtain ⟨A,c,hb,hpr⟩:=HPW.out.box;generalize probsL (lineBs pre)=out at *;generalize (lineBs pre).length=nl at *;obtain ⟨⟨px,t⟩,hxm⟩:=x
  dsimp only at *
  have HBx:=kp hX;have HPr:=kp hpr;have HBb:=kp hb;obtain ⟨x0,x1,xf⟩:=Bk.c2 hX;obtain ⟨b0,bf⟩:=Bk.c1 hb;clear hX hb hpr
  gi_wp2
  refine⟨trivial,?_⟩;refine(callsIn_round (Tryz.strings_TrimSuffix t ⟨#[10]⟩ W (by omega))).mono ?_;rintro e w3 ⟨rfl,rfl⟩
  gi_wp2
  refine⟨trivial,?_⟩;refine(callsIn_round (Tryz.strings_CutPrefix _ ⟨#[61,61,32]⟩ w3)).mono ?_;rintro e w4 ⟨rfl,rfl⟩;have HHd:=kp (show Lib.hasPrefix (ByteArray.mk (Lib.trimSuffix t.data.toList (ByteArray.mk #[10]).data.toList).toArray).data.toList (ByteArray.mk #[61,61,32]).data.toList=headB (Lx.bs t) from rfl);rw [HHd.out]
  cases hh:headB (Lx.bs t)
  ·by_cases h0:0 < out.length
   ·have hlp:out[out.length - 1]?=some out[out.length - 1]:=gqe (by omega)
    have HSt:=kp (show stepP nameL out (Lx.bs t)=out.set (out.length - 1) (out[out.length - 1].1,out[out.length - 1].2 ++ Lx.bs t) by
     unfold stepP;rw [if_neg (by rw [hh];decide),addLast_set _ _ _ hlp])
    have hps:=HSm.out.2 _ (mgq hlp);have hps2:out[out.length - 1].2.length<=1000000000000:=Nat.le_trans hps (Nat.le_trans (Nat.mul_le_mul HLn.out hs) (by decide));obtain ⟨g,hA,hgb,hgl,hcell⟩:=HPr.out.cell valP_len h0;obtain ⟨c1,cf⟩:=hcell _ _ hlp 1 _ rfl;have HLp:=kp hlp;have HSet:=kp (PRow.set (y:=(out[out.length - 1].1,out[out.length - 1].2 ++ Lx.bs t)) (u:=.string ((⟨out[out.length - 1].2.toArray⟩:ByteArray) ++ t)) (j:=1) valP_len HPr.out hA hlp (by decide) (valP_set _ t));generalize out[out.length - 1]=p at *;have hpz:(⟨p.2.toArray⟩:ByteArray).size=p.2.length:=by rw [← Lx.bs_length,Lx.bs_mk]
    have hsum:((⟨p.2.toArray⟩:ByteArray).size:Int)+(t.size:Int)<=2000000000000:=by omega
    have hsumN:¬ 9223372036854775807 < (⟨p.2.toArray⟩:ByteArray).size+t.size:=by omega
    have HLen:=kp (show(out.set (out.length - 1) (p.1,p.2 ++ Lx.bs t)).length=out.length by simp);have HLo:=kp (show out.length<=1000000 from Nat.le_trans HSm.out.1 HLn.out);clear hps hps2 hlp hpz;generalize (⟨p.2.toArray⟩:ByteArray)=ps at *;generalize out.length=n at *;obtain ⟨k,rfl⟩:∃ k,n=k+1:=⟨n - 1,by omega⟩;rw [show k+1 - 1=k by omega] at *;have hkl:(k:Int) < (k:Int)+1:=by omega
    have hko:(k:Int)<=1000000:=by have:=HLo.out;omega
    have hwk:IntKind.i64.wrap (k:Int)=(k:Int):=IntWalk.i64_in _ (by omega);clear h0;subst hA
    gi_wp2
    refine wpIn_region_hd (S:=fun V=>V=w4.drew) (by kernel_rfl) (by repeat' first | exact letsG | refine lets_then ?_ | refine lets_block ?_) (by kernel_rfl) 12 (rfl) (fun hHeld=>?_);refine hl1 [0,1,2,3,4,5,6,7,8,9,10,11] ?_;iterate 12 (refine hwt (v:=?_) ?_ ?_;rotate_left;(focus (intro w hSw;(subst hSw;go_simp;try with_reducible rfl)));try simp only [pt])
    refine hl0 ?_;refine wpHd_last (i:=12) (o:=Oper.mk _ _ _ _ _ _) (by kernel_rfl) rfl (by kernel_rfl) (fun K hK=>?_);go_simp;refine hK.out _ _ ?_;clear hK K;try simp only [pt]
    refine wpHd_done (by kernel_rfl) ?_ _
    gi_wp2
    have hko:=(KeepsOthers.setCell w4 ⟨g,k * 2+1,none⟩ (.string (ps ++ t))).trans (KeepsOthers.drew _);refine⟨hko.from _,⟨by simp [World.setCell],fun b h1 _=>Below.heap_setCell w4 ⟨g,k * 2+1,none⟩ _ b (by show b≠g;omega)⟩,?_,HK.out.trans (hko.from 0)⟩;rw [HSn.out,HSt.out];have hbb:=Bk.apart HBb.out (p:=⟨g,k * 2+1,none⟩) (by show w.heap.size≠g;omega) (.string (ps ++ t));exact⟨⟨_,c,by rw [HLen.out];exact hbb,by rw [HLen.out];exact HSet.out.below ((Below.refl _ _).drew)⟩,by simpa [World.setCell] using HPW.out.size,(HPW.out.below.setCell (p:=⟨g,k * 2+1,none⟩) (by show w.heap.size<=g;omega) _).drew⟩
   ·have HOut:=kp (show stepP nameL out (Lx.bs t)=out by
     obtain rfl:out=[]:=List.length_eq_zero_iff.1 (by omega);unfold stepP;rw [if_neg (by rw [hh];decide)]
     rfl)
    gi_wp2
    exact⟨KeepsFrom.refl _ _,KeptTo.refl _ _ _,by rw [HSn.out,HOut.out];exact HPW.out,HK.out⟩
  ·have HOut:=kp (show stepP nameL out (Lx.bs t)=out ++ [(nameL (Lx.bs t),[])] by unfold stepP;rw [if_pos hh]);have hlo:out.length < 100000000000:=by have:=HSm.out.1;have:=HLn.out;omega
   have BD:=kp ((brq w4).drew)
   gi_wp2
   refine wpIn_region_hd (S:=fun V=>Below w4.heap.size w4 V) (by kernel_rfl) (by repeat' first | exact letsG | refine lets_then ?_ | refine lets_block ?_) (by kernel_rfl) 5 (BD.out) (fun hHeld=>?_);refine hl1 [0,1] ?_;iterate 2 (refine hwt (v:=?_) ?_ ?_;rotate_left;(focus (intro w hSw;(obtain ⟨b0,_⟩:=Bk.c1 (Bk.on HBb.out hSw);go_simp;try with_reducible rfl)));try simp only [pt])
   refine hl0 ?_;have HTr:=kp (fun W=>(Any.strings_Trim_laid Tryz.lays160 (by kernel_rfl) ⟨(Lib.trimPrefix (Lib.trimSuffix t.data.toList [10]) [61,61,32]).toArray⟩ ⟨#[32,9,13]⟩ W (by rw [← Lx.bs_length,Lx.bs_mk];have h1:=trim_le (Lx.bs t);rw [Lx.bs_length] at h1;exact Nat.le_trans h1 (by omega)) (by decide) (ascii_of_all (by decide))).mono (R':=fun e w'=>e=.returned (.string ⟨(nameL (Lx.bs t)).toArray⟩)/\Below W.heap.size W w') (fun e w' h=>h));generalize nameL (Lx.bs t)=nm at *;refine wpHd_step (i:=2) (o:=Oper.mk _ _ _ _ _ _) (by kernel_rfl) rfl (fun K hK=>?_);go_simp
   go_wp2_with (go_at_call 16;refine(HTr.out _).mono ?_;rintro e w5 ⟨rfl,hb5⟩;have B5:=kp (BD.out.trans (hb5.mono BD.out.size));clear hb5)
   refine hK.out _ _ (B5.out) (fun hHeld=>?_);clear hK K;try simp only [pt]
   refine hl1 [3] ?_;iterate 1 (refine hwt (v:=?_) ?_ ?_;rotate_left;(focus (intro w hSw;(go_simp;try with_reducible rfl)));try simp only [pt])
   refine hl0 ?_;have hz5:=B5.out.size;have B6:=kp (B5.out.alloc hz5 (.cells #[.string ⟨nm.toArray⟩,.string { data:=#[] }] 31));have X6:=kp (Bk.new w5 (.cells #[.string ⟨nm.toArray⟩,.string { data:=#[] }] 31));have P6:=kp (HPr.out.below B6.out);have Y6:=kp (Bk.on HBb.out B6.out);have hrl:=lt_of_block HBb.out;have hz6:=B6.out.size;refine wpHd_step (i:=4) (o:=Oper.mk _ _ _ _ _ _) (by kernel_rfl) rfl (fun K hK=>?_);go_simp;refine hK.out _ _ (B6.out) (fun hHeld=>?_);clear hK K;try simp only [pt]
   generalize w5.alloc (.cells #[.string ⟨nm.toArray⟩,.string { data:=#[] }] 31)=w6 at *;refine wpHd_last (i:=5) (o:=Oper.mk _ _ _ _ _ _) (by kernel_rfl) rfl (by kernel_rfl) (fun K hK=>?_);refine push_rstep tyP valP_len valP_one (u:=(nm,[])) rfl _ _ rfl rfl rfl P6.out rfl X6.out hlo (by have:=HPW.out.size;omega) ?_;rintro A9 c9 w9 hp9 hg9;refine hK.out _ _ ?_;clear hK K;try simp only [pt]
   have Y9:=kp ((hg9.block w.heap.size (by omega) (fun e=>by have:=P6.out.lt _ e.symm;omega)).trans Y6.out);have HP9:=kp hp9;have HG9:=kp hg9;clear hp9 hg9 hHeld;obtain ⟨b0,bf⟩:=Bk.c1 Y9.out;refine wpHd_last (i:=6) (o:=Oper.mk _ _ _ _ _ _) (by kernel_rfl) rfl (by kernel_rfl) (fun K hK=>?_);go_simp;refine hK.out _ _ ?_;clear hK K;try simp only [pt]
   refine wpHd_done (by kernel_rfl) ?_ _
   gi_wp2
   have hko:=(others_of_below B6.out).trans ((KeepsOthers.of_grownBy HG9.out P6.out.row_cells).trans (KeepsOthers.setCell w9 ⟨w.heap.size,0,none⟩ (.slice A9 (out.length+1) c9)));have hsz:=HPW.out.size;have hz9:=HG9.out.size;refine⟨hko.from _,⟨hko.size,fun b h1 h2=>?_⟩,?_,HK.out.trans (hko.from 0)⟩
   ·refine(Below.heap_setCell w9 ⟨w.heap.size,0,none⟩ _ b h2).trans ((HG9.out.block b (by omega) (fun e=>?_)).trans (B6.out.block b (by omega)));have:=P6.out.lt _ e.symm
    omega
   ·rw [HSn.out,HOut.out];have h9:=Bk.set_at Y9.out 0 (.slice A9 (out.length+1) c9);refine⟨⟨A9,c9,by rw [List.length_append];exact h9,by rw [List.length_append];exact HP9.out.same (SameIn.setCell _ _ _ _ _ (Or.inl (by show w.heap.size < w.heap.size+2;omega)))⟩,by have:=hko.size;omega,?_⟩;exact((HPW.out.below.trans (B6.out.mono HPW.out.below.size)).grown HG9.out (by omega) (fun j e=>by have:=(P6.out.lt _ e).1;omega)).setCell (p:=⟨w.heap.size,0,none⟩) nlq _
 case done =>
  rintro D xs W hD hS ⟨hp,hk⟩ hM
  have hfin:problemsL nameL (Lx.bs s)=probsL (lineBs xs):=by
   unfold problemsL probsL lineBs;have:=items_lines s s.size 0 (by omega);rw [← hS,List.map_map] at this;rw [show from_ s 0=Lx.bs s from rfl] at this;rw [← this]
   rfl
  have HFin:=kp hfin;have HPW:=kp hp;obtain ⟨A,c,hb,hpr⟩:=hp.box;obtain ⟨b0,bf⟩:=Bk.c1 hb;have HBx:=kp hb;clear hp hfin hb;generalize probsL (lineBs xs)=out at *;go_wp2_with fail
  have BE:=kp (HPW.out.below.setCell (p:=⟨w.heap.size,0,none⟩) nlq (.slice A out.length c));have XE:=kp (show(W.setCell ⟨w.heap.size,0,none⟩ (.slice A out.length c)).heap[w.heap.size]?=some (.cells #[.slice A out.length c] 28 (0,0)) from Bk.set_at HBx.out 0 (.slice A out.length c));have PE:=kp (hpr.same (SameIn.setCell (w.heap.size+2) W.heap.size W ⟨w.heap.size,0,none⟩ (.slice A out.length c) (Or.inl (by show w.heap.size < w.heap.size+2;omega))));have hMd:=(Below.heap_setCell W ⟨w.heap.size,0,none⟩ (.slice A out.length c) D (by show D≠w.heap.size;omega)).trans hM;rw [HFin.out];refine(Marks.one (B:=w.heap.size) (by omega) hMd).leaves (fun w' hc hb=>⟨.slice A out.length c,?_,A,c,rfl,?_,BE.out.trans hb⟩)
  ·obtain ⟨y0,_⟩:=Bk.c1 (hc _ _ XE.out rfl);simp [results,Tryz.results7,go_sem,y0]
  ·exact(PE.out.mono (by omega)).kept ⟨hb.size,fun b cs t z h=>hc _ _ h rfl⟩
 case stop =>
  rintro D c pre W _ _ h _;exact h.elim
end Bn
end Go.Proofs.YtmcbolkpbklfeaaGreatDoor
