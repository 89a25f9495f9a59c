import Derived.Test.YtmcbolkpbklfeaaGreatDoorShort
import Derived.Test.YtmcbolkpbklfeaaGreatDoorBase
import Derived.WalkLawsBesides
import Derived.Test.YtmcbolkpbklfeaaGreatDoorLaw
import Derived.Deep.Slices
import Derived.Deep.Fields
import Derived.Test.YtmcbolkpbklfeaaGreatDoorNumPlain
import Derived.Maps.AppendAt
import Derived.RegionTactic
import Derived.OwnWalk
import Derived.Deep.RegionHeld3
import Derived.RangeFuncNested
import Derived.RangeFuncLeaves
import Derived.OwnWalkIn
import Derived.WalkSmall
import Derived.Maps.OwnSet
import Derived.Maps.Views
import Derived.Maps.Keyed
import Derived.MapViews
import Derived.DeepKeys4
import Derived.Laws.CopyOwn
import Derived.Laws.CopyRow
import Derived.BigQuiet
import Derived.Deep.Cut
import Derived.Laws.IdiomCopy
import Derived.Test.YtmcbolkpbklfeaaGreatDoorShelf
import Derived.Laws.Tables
import Derived.DeepKeys5
/- merged by wip/merge.py from: LexA LexB LexP Frame Lies Sig SexpPlain Blk Own2 RowOk SexpOpen Own HeldW Seq PRow SeqH LexR Equal Grows Maps KeyMap More DrMark DrRep SetCells Keys KeyMapN SigOpen -/
set_option maxRecDepth 100000
set_option maxHeartbeats 51200000
namespace Go.Proofs.YtmcbolkpbklfeaaGreatDoor
namespace Lx
open Go.RowKit
def bs (s:ByteArray):List UInt8:=s.data.toList
theorem bs_toList (s:ByteArray):s.toList=bs s:=ByteArray.toList_eq s
theorem bs_length (s:ByteArray):(bs s).length=s.size:=by unfold bs;simp
theorem bs_inj {s t:ByteArray}:bs s=bs t ↔ s=t:=by
 unfold bs
 constructor
 ·intro h
  cases s;cases t;congr 1;exact Array.toList_inj.1 h
 ·intro h;rw [h]
theorem bs_mem {s:ByteArray} {k:Nat} (hk:k < s.size):s[k] ∈ bs s:=by unfold bs;exact Array.mem_toList_iff.2 (Array.getElem_mem _)
theorem bs_next {s:ByteArray} {k:Nat} (hk:k < s.size):(bs s).take (k+1)=(bs s).take k ++ [s[k]]:=by
 unfold bs;rw [List.take_succ_eq_append_getElem (by simpa using hk)];rfl
theorem bs_at {s:ByteArray} {k:Nat} (hk:k < s.size):(bs s)[k]?=some s[k]:=by
 unfold bs;rw [gqe (by simpa using hk)];rfl
def whiteI (c:Int):Bool:=decide (c=32\/c=9\/c=10\/c=13)
def digitI (c:Int):Bool:=decide (48<=c/\c<=57)
def insideI (c:Int):Bool:=decide (c≠124/\c≠92/\((32<=c/\c<=126)\/c=9\/c=10\/c=13))
def signI (c:Int):Bool:=decide ((65<=c/\c<=90)\/(97<=c/\c<=122)\/(48<=c/\c<=57)\/c=126\/c=33\/c=64\/c=36\/c=37\/c=94\/c=38\/c=42\/c=95\/c=45\/c=43\/c=61\/c=60\/c=62\/c=46\/c=63\/c=47)
theorem white_any (c:Int) (w:World) :
  Calls Tryz.prog 61 #[.int .u8 c] w fun e w'=>e=.returned (.bool (whiteI c))/\w=w':=by
 go_enter Tryz.func61,Tryz.ntmps61
 go_wp2_with fail
 all_goals
  go_ret;exact⟨ret_bool (by rw [Bool.eq_iff_iff];simp [whiteI];try omega),rfl⟩
theorem digit_any (c:Int) (w:World) (h0:0<=c) (h1:c<=255) :
  Calls Tryz.prog 221 #[.int .u8 c] w fun e w'=>e=.returned (.bool (digitI c))/\w=w':=by
 by_cases h2:48<=c
 ·go_enter Tryz.func221,Tryz.ntmps221
  go_wp2_with fail
  all_goals
   go_ret;exact⟨ret_bool (by rw [Bool.eq_iff_iff];simp [digitI];try omega),rfl⟩
 ·go_enter Tryz.func221,Tryz.ntmps221
  go_wp2_with fail
  all_goals
   go_ret;exact⟨ret_bool (by rw [Bool.eq_iff_iff];simp [digitI];try omega),rfl⟩
theorem inside_any (c:Int) (w:World) :
  Calls Tryz.prog 219 #[.int .u8 c] w fun e w'=>e=.returned (.bool (insideI c))/\w=w':=by
 have HW:=kp (white_any c w);have HQ:=kp (show whiteI c=decide (c=32\/c=9\/c=10\/c=13) from rfl);generalize whiteI c=b at *
 go_enter Tryz.func219,Tryz.ntmps219
 go_wp2_with (go_at_call 61;refine HW.out.mono ?_;rintro e w' ⟨rfl,rfl⟩)
 all_goals
  go_ret;have hq:=HQ.out;exact⟨ret_bool (by rw [Bool.eq_iff_iff];simp [insideI,hq];try omega),rfl⟩
theorem low_bits:∀ n:Nat,n < 64->(bits BinOp.and IntKind.u64 (17582031444648132608 / 2 ^ n) 1 == 1)=signI (n:Int):=by
 intro n hn;exact(show ∀ n:Fin 64,(bits BinOp.and IntKind.u64 (17582031444648132608 / 2 ^ n.val) 1 == 1)=signI (n.val:Int) by decide +kernel) ⟨n,hn⟩
theorem high_bits:∀ n:Nat,n < 64->(bits BinOp.and IntKind.u64 (5188146765496319999 / 2 ^ n) 1 == 1)=signI ((n+64:Nat):Int):=by
 intro n hn;exact(show ∀ n:Fin 64,(bits BinOp.and IntKind.u64 (5188146765496319999 / 2 ^ n.val) 1 == 1)=signI ((n.val+64:Nat):Int) by decide +kernel) ⟨n,hn⟩
theorem sign_any (c:Int) (w:World) (h0:0<=c) (h1:c<=255) :
  Calls Tryz.prog 222 #[.int .u8 c] w fun e w'=>e=.returned (.bool (signI c))/\w=w':=by
 obtain ⟨n,rfl⟩:=Int.eq_ofNat_of_zero_le h0
 by_cases h2:n < 64
 ·have h2':(n:Int) < 64:=by omega
  have HB:=kp (low_bits n h2)
  go_enter Tryz.func222,Tryz.ntmps222
  go_wp2_with fail
  go_ret;exact⟨ret_bool (by rw [← HB.out]),rfl⟩
 ·have h2':=dfq (show ¬ (n:Int) < 64 by omega)
  by_cases h3:n < 128
  ·obtain ⟨m,rfl⟩:∃ m,n=m+64:=⟨n - 64,by omega⟩;have h3':((m+64:Nat):Int) < 128:=by omega
   have h4:0<=((m+64:Nat):Int) - 64:=by omega
   have HB:=kp (high_bits m (by omega));have HE:=kp (show(((m+64:Nat):Int) - 64).toNat=m by omega);generalize ((m+64:Nat):Int)=x at *
   go_enter Tryz.func222,Tryz.ntmps222
   go_wp2_with fail
   go_ret;exact⟨ret_bool (by have h:=HB.out;rw [← HE.out] at h;exact h),rfl⟩
  ·have h3':=dfq (show ¬ (n:Int) < 128 by omega);have HS:=kp (show false=signI (n:Int) by rw [eq_comm,Bool.eq_false_iff];simp [signI];omega)
   go_enter Tryz.func222,Tryz.ntmps222
   go_wp2_with fail
   go_ret;exact⟨ret_bool HS.out,rfl⟩
def resL:List (List UInt8):=[[95],[33],[97,115],[108,101,116],[101,120,105,115,116,115],[102,111,114,97,108,108],[109,97,116,99,104],[112,97,114]]
def resB (l:List UInt8):Bool:=resL.contains l
theorem reserved_any (s:ByteArray) (w:World) :
  Calls Tryz.prog 249 #[.string s] w fun e w'=>e=.returned (.bool (resB (bs s)))/\w=w':=by
 go_enter Tryz.func249,Tryz.ntmps249
 go_wp2_with fail
 all_goals
  go_ret;exact⟨ret_bool (by rw [← bs_toList];simp_all [resB,resL]),rfl⟩
theorem all_inside (s:ByteArray) (w:World) (hs:(s.size:Int)<=9223372036854775807) :
  Calls Tryz.prog 218 #[.string s,.func (Fn.func 219) #[] #[]] w fun e w'=>e=.returned (.bool ((bs s).all fun c=>insideI c.toNat))/\w=w':=by
 go_enter Tryz.func218,Tryz.ntmps218
 go_wp2_with fail
 go_loop [8,5] (fun v _=>∃ k:Nat,k<=s.size/\v=.int .i64 k/\((bs s).take k).all (fun c=>insideI c.toNat)=true) (fun v _=>s.size - (intOf v).toNat)
 case atStart=>exact⟨0,Nat.zero_le _,rfl,rfl⟩
 case round =>
  obtain ⟨k,hk,rfl,hall⟩:=hrel;have HA:=kp hall;clear hall
  by_cases hlt:k < s.size
  ·have hlt2:(k:Int) < (s.size:Int):=by omega
   have HC:=kp ((fun c w _ _=>inside_any c w) (s[k].toNat:Int) w (by omega) (by have:=s[k].toNat_lt;omega));have HT:=kp (bs_next hlt);have HM:=kp (show s[k] ∈ (bs s) from bs_mem hlt)
   cases hb:insideI (s[k].toNat:Int) with
   | true =>
    have HB:=kp hb;rw [hb] at HC;clear hb;go_wp2_with fail
    refine HC.out.mono ?_;rintro e w' ⟨rfl,rfl⟩;go_wp2_with fail
    go_round
    case rel=>exact⟨k+1,by omega,by go_num,by rw [HT.out,List.all_append,HA.out];simp [HB.out]⟩
    case measure=>simp [intOf];omega
   | false =>
    have HB:=kp (show((bs s).all fun c=>insideI c.toNat)=false from by rw [Bool.eq_false_iff];intro h;rw [List.all_eq_true] at h;have:=h _ HM.out;rw [hb] at this;cases this);rw [hb] at HC;clear hb;go_wp2_with fail
    refine HC.out.mono ?_;rintro e w' ⟨rfl,rfl⟩;go_wp2_with fail
    go_ret;exact⟨ret_bool HB.out.symm,rfl⟩
  ·obtain rfl:k=s.size:=by omega
   have HB:=kp (show((bs s).all fun c=>insideI c.toNat)=true from by have h:=HA.out;rwa [List.take_of_length_le (by rw [bs_length];omega)] at h);go_wp2_with fail
   go_ret;exact⟨ret_bool HB.out.symm,rfl⟩
def mayB (l:List UInt8):Bool:=decide (l.length<=100) && l.all fun c=>insideI c.toNat
theorem may_any (s:ByteArray) (w:World) (hs:(s.size:Int)<=9223372036854775807) :
  Calls Tryz.prog 225 #[.string s] w fun e w'=>e=.returned (.bool (mayB (bs s)))/\w=w':=by
 have HA:=kp (all_inside s w hs);have HM:=kp (show mayB (bs s)=(decide (s.size<=100) && (bs s).all fun c=>insideI c.toNat) by unfold mayB;rw [bs_length]);generalize ((bs s).all fun c=>insideI c.toNat)=b at *
 by_cases h1:s.size<=100
 ·have h:(s.size:Int)<=100:=by omega
  go_enter Tryz.func225,Tryz.ntmps225
  go_wp2_with fail
  refine HA.out.mono ?_;rintro e w' ⟨rfl,rfl⟩;go_wp2_with fail
  go_ret;exact⟨ret_bool (by rw [HM.out];simp [h1]),rfl⟩
 ·have h:decide ((s.size:Int)<=100)=false:=dfq (by omega)
  go_enter Tryz.func225,Tryz.ntmps225
  go_wp2_with fail
  go_ret;exact⟨ret_bool (by rw [HM.out];simp [h1]),rfl⟩
def plainB (l:List UInt8):Bool:=!l.isEmpty && decide (l.length<=100) && (l.all fun c=>signI c.toNat) && !digitI (l.getD 0 0).toNat && !resB l
def quoteL (l:List UInt8):List UInt8:=if plainB l || resB l then l else 124 :: (l ++ [124])
theorem bs_mk (l:List UInt8):bs ⟨l.toArray⟩=l:=by unfold bs;simp
theorem bs_append (s t:ByteArray):bs (s ++ t)=bs s ++ bs t:=by unfold bs;simp
end Lx
section
open Go.RowKit
structure Keeps (S:Nat->Prop) (w w':World):Prop where
 os:w'.os=w.os
 tape:w'.tape=w.tape
 output:w'.output=w.output
 size:w.heap.size<=w'.heap.size
 block:∀ k,k < w.heap.size->¬ S k->w'.heap[k]?=w.heap[k]?
def more (S:Nat->Prop) (w w':World):Nat->Prop:=fun k=>S k\/(w.heap.size<=k/\k < w'.heap.size)
section
variable {S T:Nat->Prop} {w w1 w2 w':World}
theorem Keeps.refl (S:Nat->Prop) (w:World):Keeps S w w:=⟨rfl,rfl,rfl,nlq,fun _ _ _=>rfl⟩
theorem Keeps.trans (h:Keeps S w w1) (k:Keeps T w1 w2) (hT:∀ j,j < w.heap.size->T j->S j):Keeps S w w2 :=
 ⟨k.os.trans h.os,k.tape.trans h.tape,k.output.trans h.output,Nat.le_trans h.size k.size,fun j hj hs =>
  (k.block j (Nat.lt_of_lt_of_le hj h.size) (fun ht=>hs (hT j hj ht))).trans (h.block j hj hs)⟩
theorem Keeps.trans_same (h:Keeps S w w1) (k:Keeps S w1 w2):Keeps S w w2:=h.trans k (fun _ _ h=>h)
theorem Keeps.mono (h:Keeps S w w') (hS:∀ j,S j->T j):Keeps T w w':=⟨h.os,h.tape,h.output,h.size,fun j hj ht=>h.block j hj (fun hs=>ht (hS j hs))⟩
theorem Keeps.drew (h:Keeps S w w'):Keeps S w w'.drew:=⟨h.os,h.tape,h.output,h.size,h.block⟩
theorem Keeps.drewN (h:Keeps S w w') (n:Nat):Keeps S w (w'.drewN n):=⟨h.os,h.tape,h.output,h.size,h.block⟩
theorem Keeps.alloc (h:Keeps S w w') (o:Obj):Keeps S w (w'.alloc o) :=
 ⟨h.os,h.tape,h.output,Nat.le_trans h.size (by simp),fun j hj hs=>(Below.heap_alloc w' o j (Nat.lt_of_lt_of_le hj h.size)).trans (h.block j hj hs)⟩
theorem Keeps.setCell (h:Keeps S w w') {p:Addr} (hp:S p.block\/w.heap.size<=p.block) (u:Value):Keeps S w (w'.setCell p u) :=
 ⟨h.os,h.tape,h.output,by simpa [World.setCell] using h.size,fun j hj hs=>(Below.heap_setCell w' p u j (by
  rintro rfl;rcases hp with hp | hp
  ·exact hs hp
  ·omega)).trans (h.block j hj hs)⟩
theorem Keeps.grown (h:Keeps S w w1) {row:Option Nat} (hg:w1.grownBy w2 row) (hr:∀ k,row=some k->S k\/w.heap.size<=k):Keeps S w w2 :=
 ⟨hg.os.trans h.os,hg.tape.trans h.tape,hg.output.trans h.output,Nat.le_trans h.size hg.size,fun j hj hs =>
  (hg.block j (Nat.lt_of_lt_of_le hj h.size) (fun e=>by
   rcases hr j e.symm with h1 | h1
   ·exact hs h1
   ·omega)).trans (h.block j hj hs)⟩
theorem Keeps.of_below (h:Below w.heap.size w w') (S:Nat->Prop):Keeps S w w':=⟨h.os,h.tape,h.output,h.size,fun j hj _=>h.block j hj⟩
theorem Keeps.below {B:Nat} (h:Keeps S w w') (hS:∀ k,S k->B<=k) (hB:B<=w.heap.size):Below B w w' :=
 ⟨h.os,h.tape,h.output,h.size,fun k hk=>h.block k (by omega) (fun hs=>by have:=hS k hs;omega)⟩
theorem Keeps.none_below (h:Keeps (fun _=>False) w w'):Below w.heap.size w w':=⟨h.os,h.tape,h.output,h.size,fun k hk=>h.block k hk id⟩
theorem Keeps.cell (h:Keeps S w w') {b o:Nat} (hb:b < w.heap.size) (hs:¬ S b):w'.cell? ⟨b,o,none⟩=w.cell? ⟨b,o,none⟩ :=
 World.cell?_of_block (w:=w) (h.block b hb hs)
theorem Keeps.frozen (h:Keeps S w w') {b o:Nat} (hb:b < w.heap.size) (hs:¬ S b):w'.frozen? ⟨b,o,none⟩=w.frozen? ⟨b,o,none⟩ :=
 World.frozen?_of_block (w:=w) (h.block b hb hs)
end
theorem lt_of_block {w:World} {k:Nat} {o:Obj} (h:w.heap[k]?=some o):k < w.heap.size:=(Array.getElem?_eq_some_iff.1 h).1
end
section
open Go.RowKit Go.ChangeShapes Go.WideShapes Go.Deep
def Lasts {α:Type} (R:World->List Value->α->Prop):Prop:=∀ w w' vs x,Below w.heap.size w w'->R w vs x->R w' vs x
def RowAt {α:Type} (n:Nat) (R:World->List Value->α->Prop) (w:World) (b o:Nat) (xs:List α):Prop :=
 ∀ i x,xs[i]?=some x->∃ vs:List Value,vs.length=n/\(∀ j u,vs[j]?=some u->w.cell? ⟨b,o+i * n+j,none⟩=some u)/\R w vs x
def Lies {α:Type} (n:Nat) (R:World->List Value->α->Prop) (w:World) (A:Option Addr) (xs:List α):Prop :=
 xs=[]\/∃ b o,A=some ⟨b,o,none⟩/\b < w.heap.size/\RowAt n R w b o xs
section
variable {α:Type} {n:Nat} {R:World->List Value->α->Prop} {w w':World} {A:Option Addr} {xs:List α}
theorem Lies.on (hR:Lasts R) (h:Lies n R w A xs) (hb:Below w.heap.size w w'):Lies n R w' A xs:=by
 rcases h with h | ⟨b,o,hA,hlt,hr⟩
 ·exact .inl h
 ·refine .inr ⟨b,o,hA,Nat.lt_of_lt_of_le hlt hb.size,fun i x hx=>?_⟩;obtain ⟨vs,h1,h2,h3⟩:=hr i x hx;exact⟨vs,h1,fun j u hu=>(hb.cell (p:=⟨b,o+i * n+j,none⟩) hlt).trans (h2 j u hu),hR _ _ _ _ hb h3⟩
theorem Lies.at' (h:Lies n R w A xs) {i:Nat} {x:α} (hx:xs[i]?=some x) :
  ∃ b o vs,A=some ⟨b,o,none⟩/\b < w.heap.size/\vs.length=n/\(∀ j u,vs[j]?=some u->w.cell? ⟨b,o+i * n+j,none⟩=some u)/\R w vs x:=by
 rcases h with h | ⟨b,o,hA,hlt,hr⟩
 ·subst h;simp at hx
 ·obtain ⟨vs,h1,h2,h3⟩:=hr i x hx;exact⟨b,o,vs,hA,hlt,h1,h2,h3⟩
theorem Lies.take (h:Lies n R w A xs) (k:Nat):Lies n R w A (xs.take k):=by
 rcases h with h | ⟨b,o,hA,hlt,hr⟩
 ·exact .inl (by rw [h];simp)
 ·refine .inr ⟨b,o,hA,hlt,fun i x hx=>hr i x ?_⟩;rw [List.getElem?_take] at hx
  split at hx
  ·exact hx
  ·cases hx
theorem Lies.imp {β:Type} {S:World->List Value->β->Prop} {ys:List β} (h:Lies n R w A xs) (hl:ys.length=xs.length) (hi:∀ (i:Nat) x y vs,xs[i]?=some x->ys[i]?=some y->R w vs x->S w vs y):Lies n S w A ys:=by
 rcases h with h | ⟨b,o,hA,hlt,hr⟩
 ·subst h;exact .inl (List.length_eq_zero_iff.1 hl)
 ·refine .inr ⟨b,o,hA,hlt,fun i y hy=>?_⟩;have hlt:i < ys.length:=(gqs hy).1;have hx:=gqe (show i < xs.length by omega);obtain ⟨vs,h1,h2,h3⟩:=hr i _ hx;exact⟨vs,h1,h2,hi i _ y vs hx hy h3⟩
end
def One {α:Type} (f:α->Value) (_:World) (vs:List Value) (x:α):Prop:=vs=[f x]
theorem One.lasts {α:Type} (f:α->Value):Lasts (One f):=fun _ _ _ _ _ h=>h
theorem Lies.one {α:Type} {f:α->Value} {w:World} {A:Option Addr} {xs:List α} (h:Lies 1 (One f) w A xs):Cells w A (xs.map f):=by
 rcases h with h | ⟨b,o,hA,hlt,hr⟩
 ·subst h;exact .inl rfl
 ·refine .inr ⟨b,o,hA,hlt,fun j u hu=>?_⟩;have hj:j < xs.length:=by have:=(gqs hu).1;simpa using this
  obtain ⟨vs,h1,h2,h3⟩:=hr j _ (gqe hj);have:vs=[f xs[j]]:=h3;subst this;have:=h2 0 (f xs[j]) rfl;rw [Nat.mul_one,Nat.add_zero] at this;rw [this,← hu];simp [hj]
theorem lies_list {α:Type} {P:Nat->α->Prop} (n:Nat) (h:∀ i,i < n->∃ x,P i x):∃ l:List α,l.length=n/\∀ i x,l[i]?=some x->P i x:=by
 induction n with
 | zero=>exact⟨[],rfl,fun i x hx=>by simp at hx⟩
 | succ n ih =>
  obtain ⟨l,hl,hp⟩:=ih (fun i hi=>h i (by omega));obtain ⟨x,hx⟩:=h n (by omega);refine⟨l ++ [x],by simp [hl],fun i y hy=>?_⟩
  by_cases hi:i < n
  ·rw [List.getElem?_append_left (by omega)] at hy;exact hp i y hy
  ·rw [List.getElem?_append_right (by omega)] at hy
   by_cases e:i=n
   ·subst e;rw [hl] at hy;simp at hy;subst hy;exact hx
   ·rw [List.getElem?_eq_none (by simp;omega)] at hy;cases hy
section
variable {H:Type} {enc:TypeId × Value->H} {P:Program}
def Fits (P:Program) (t:TypeId) (d:DataW H):Prop:=∀ n ∈ d.weights P t,n<=140737488351232
theorem fits_all {e:TypeId}:∀ {ds:List (DataW H)},(∀ n ∈ DataW.weightsAll P e ds,n<=140737488351232)->∀ d ∈ ds,Fits P e d
 | [],_=>fun d hd=>by cases hd
 | d0 :: r,h=>fun d hd=>by
  unfold DataW.weightsAll at h;rcases List.mem_cons.1 hd with e | e
  ·subst e;exact fun n hn=>h n (List.mem_append_left _ hn)
  ·exact fits_all (fun n hn=>h n (List.mem_append_right _ hn)) d e
theorem fits_each:∀ {ts:List TypeId} {ds:List (DataW H)},(∀ n ∈ DataW.weightsEach P ts ds,n<=140737488351232)->∀ (i:Nat) t d,ts[i]?=some t->ds[i]?=some d->Fits P t d
 | [],_,_=>fun i t d ht _=>by simp at ht
 | _ :: _,[],_=>fun i t d _ hd=>by simp at hd
 | t0 :: ts,d0 :: ds,h=>fun i t d ht hd=>by
  unfold DataW.weightsEach at h
  cases i with
  | zero=>simp at ht hd;subst ht;subst hd;exact fun n hn=>h n (List.mem_append_left _ hn)
  | succ i=>simp at ht hd;exact fits_each (fun n hn=>h n (List.mem_append_right _ hn)) i t d ht hd
theorem fits_slice {t e:TypeId} {el sp:List (DataW H)} (ht:P.underlying t=some (.slice e)) (h:Fits P t (.slice el sp)):(el.length+sp.length) * P.bytesOf e<=140737488351232/\∀ d ∈ el,Fits P e d:=by
 unfold Fits DataW.weights at h;rw [ht] at h;exact⟨h _ (List.mem_cons_self ..),fits_all fun n hn=>h n (List.mem_cons_of_mem _ (List.mem_append_left _ hn))⟩
theorem fits_struct {t:TypeId} {fs:Array Field} {ps:List (DataW H)} (ht:P.underlying t=some (.struct fs)) (h:Fits P t (.agg ps)):∀ (i:Nat) (f:Field) d,fs[i]?=some f->ps[i]?=some d->Fits P f.type d:=by
 unfold Fits DataW.weights at h;rw [ht] at h;exact fun i f d hf hd=>fits_each h i f.type d (by simp [hf]) hd
def Opens {α:Type} (H:Type) (enc:TypeId × Value->H) (P:Program) (t:TypeId) (R:World->List Value->α->Prop) (fuel:Nat):Prop :=
 ∀ (W:World) (cs:List Value) (y:DataW H × List MemPlace),DataW.trod enc P W 0 (fun _=>true) true fuel t cs=some y->Fits P t y.1->∃ x,R W cs x
theorem open_int {t:TypeId} {k:IntKind} (ht:P.underlying t=some (.int k)) {W:World} {fuel:Nat} {cs:List Value} {y:DataW H × List MemPlace} (h:DataW.trod enc P W 0 (fun _=>true) true fuel t cs=some y):∃ n,cs=[.int k n]/\(Lit.int k n).wf=true:=by
 obtain ⟨n,h1,_,h2⟩:=DataW.trod_int ht h;exact⟨n,h1,h2⟩
theorem open_str {t:TypeId} (ht:P.underlying t=some .string) {W:World} {fuel:Nat} {cs:List Value} {y:DataW H × List MemPlace} (h:DataW.trod enc P W 0 (fun _=>true) true fuel t cs=some y) (hf:Fits P t y.1):∃ s:ByteArray,cs=[.string s]/\(s.size:Int)<=140737488351232:=by
 obtain ⟨s,h1,h2,_⟩:=DataW.trod_string ht h;refine⟨s,h1,?_⟩;rw [h2] at hf;have:=hf s.data.toList.length (by unfold DataW.weights;exact List.mem_cons_self ..);have e:s.data.toList.length=s.size:=by simp
 omega
theorem open_lies {α:Type} {R:World->List Value->α->Prop} {t e:TypeId} {n fuel:Nat} {W:World} {cs:List Value} {y:DataW H × List MemPlace} (ht:P.underlying t=some (.slice e)) (hn:P.cellsOf e=n) (hn0:0 < n)
  (hR:∀ fuel',fuel' < fuel->Opens H enc P e R fuel') (h:DataW.trod enc P W 0 (fun _=>true) true fuel t cs=some y) (hf:Fits P t y.1) :
  ∃ (A:Option Addr) (cap:Nat) (xs:List α),cs=[.slice A xs.length cap]/\Lies n R W A xs/\xs.length<=cap/\cap<=maxLen/\xs.length * P.bytesOf e<=140737488351232:=by
 rcases DataW.trod_slice ht h with⟨hcs,hx⟩ | ⟨a,len,cap,elems,rest,m,hfu,hcs,hy,_,hl,hm,hlen,hel,_⟩
 ·exact⟨none,0,[],hcs,.inl rfl,by simp,by simp,by simp⟩
 ·subst hfu;rw [hn] at hel;rw [hy] at hf;obtain ⟨hb,hfe⟩:=fits_slice ht hf
  obtain ⟨l,hll,hlp⟩:=lies_list (P:=fun i (x:α)=>∃ vs,W.cells? 0 (a.add (i * n)) n=some vs/\R W vs x) len (fun i hlt=>by
   have h1:=hel i hlt;rw [gqe (by omega)] at h1;obtain ⟨vs,hv,ht'⟩:=Option.bind_eq_some_iff.1 h1;obtain ⟨x,hx⟩:=hR m (by omega) W vs _ ht' (hfe _ (List.mem_map.2 ⟨_,List.getElem_mem (by omega),rfl⟩));exact⟨x,vs,hv,hx⟩)
  have hlb:l.length * P.bytesOf e<=140737488351232:=by
   rw [List.length_map,List.length_map] at hb;exact Nat.le_trans (Nat.mul_le_mul_right _ (by omega)) hb
  refine⟨some a,cap,l,by rw [hll];exact hcs,?_,by omega,hm,hlb⟩
  by_cases h0:l=[]
  ·exact .inl h0
  ·right
   have hlen0:0 < l.length:=List.length_pos_iff.2 h0;obtain ⟨vs0,hv0,_⟩:=hlp 0 _ (gqe hlen0);obtain ⟨_,hvl,hat⟩:=World.cells?_some hv0;have hc0:=hat 0 hn0;rw [gqe (by omega)] at hc0;have e00:(a.add (0 * n)).add 0=a:=by unfold Addr.add;simp
   rw [e00] at hc0
   have hsp:a.spot=none:=by
    cases hs:a.spot with
    | none=>rfl
    | some q =>
     exfalso
     unfold World.cell? at hc0
     split at hc0
     ·rw [hs] at hc0;simp at hc0
     ·cases hc0
   obtain ⟨b,o,sp⟩:=a;simp only at hsp;subst hsp
   have hadd:∀ i j,((⟨b,o,none⟩:Addr).add (i * n)).add j=⟨b,o+i * n+j,none⟩:=fun i j=>by
    rw [Go.Deep.add_add];unfold Addr.add
    split
    ·simp_all
    ·simp [Nat.add_assoc]
   refine⟨b,o,rfl,World.block_lt_of_cell? W _ hc0,fun i x hx=>?_⟩;obtain ⟨vs,hv,hr⟩:=hlp i x hx;obtain ⟨_,hvl,hat⟩:=World.cells?_some hv;refine⟨vs,by omega,fun j u hu=>?_,hr⟩;have hj:j < n:=by have:=(gqs hu).1;omega
   rw [← hadd,hat j hj];exact hu
def SliceR {α:Type} (n b:Nat) (R:World->List Value->α->Prop) (W:World) (cs:List Value) (xs:List α):Prop :=
 ∃ A cap,cs=[.slice A xs.length cap]/\Lies n R W A xs/\xs.length<=cap/\cap<=maxLen/\xs.length * b<=140737488351232
theorem SliceR.lasts {α:Type} {n b:Nat} {R:World->List Value->α->Prop} (hR:Lasts R):Lasts (SliceR n b R):=fun _ _ _ _ hb ⟨A,cap,h1,h2,h3⟩=>⟨A,cap,h1,h2.on hR hb,h3⟩
theorem field_of {α:Type} {R:World->List Value->α->Prop} {t:TypeId} {fs:Array Field} {fuel:Nat} {W:World} {cs:List Value} {y:DataW H × List MemPlace} (ht:P.underlying t=some (.struct fs))
  (h:DataW.trod enc P W 0 (fun _=>true) true fuel t cs=some y) (hf:Fits P t y.1) (i:Nat) (f:Field) (hi:fs[i]?=some f) (hR:∀ fuel',fuel' < fuel->Opens H enc P f.type R fuel') :
  ∃ x,R W ((cs.drop f.offset).take (P.cellsOf f.type)) x:=by
 obtain ⟨ys,n,hn,hy,_,hyl,hg⟩:=DataW.trod_struct ht h;have h1:=hg i f hi;have hil:i < fs.size:=(Array.getElem?_eq_some_iff.1 hi).1;rw [gqe (show i < ys.length by omega)] at h1;rw [hy] at hf;exact hR n (by omega) W _ _ h1 (fits_struct ht hf i f _ hi (by rw [List.getElem?_map,gqe (show i < ys.length by omega)];rfl))
theorem struct_len {t:TypeId} {fs:Array Field} {fuel:Nat} {W:World} {cs:List Value} {y:DataW H × List MemPlace} (ht:P.underlying t=some (.struct fs))
  (h:DataW.trod enc P W 0 (fun _=>true) true fuel t cs=some y):cs.length=P.cellsOf t:=(DataW.trod_struct ht h).choose_spec.choose_spec.2.2.1
def IntR (k:IntKind) (_:World) (vs:List Value) (n:Int):Prop:=vs=[.int k n]/\(Lit.int k n).wf=true
theorem IntR.lasts (k:IntKind):Lasts (IntR k):=fun _ _ _ _ _ h=>h
theorem opens_int {t:TypeId} {k:IntKind} (ht:P.underlying t=some (.int k)) (fuel:Nat):Opens H enc P t (IntR k) fuel:=fun _ _ _ h _=>open_int ht h
def StrR (_:World) (vs:List Value) (s:ByteArray):Prop:=vs=[.string s]/\(s.size:Int)<=140737488351232
theorem StrR.lasts:Lasts StrR:=fun _ _ _ _ _ h=>h
theorem opens_str {t:TypeId} (ht:P.underlying t=some .string) (fuel:Nat):Opens H enc P t StrR fuel:=fun _ _ _ h hf=>open_str ht h hf
end
theorem IntR.i64 {W:World} {vs:List Value} {n:Int} (h:IntR .i64 W vs n):vs=[.int .i64 n]/\I64 n:=⟨h.1,bounds_i64 h.2⟩
end
namespace Dt
open Go.RowKit Go.ChangeShapes Go.WideShapes Go.Deep
inductive Sexp where
 | mk (kind:Int) (text:ByteArray) (l:List Sexp)
def Sexp.kind:Sexp->Int | .mk k _ _=>k
def Sexp.text:Sexp->ByteArray | .mk _ t _=>t
def Sexp.l:Sexp->List Sexp | .mk _ _ l=>l
inductive SexpR (w:World):List Value->Sexp->Prop
 | mk {k:Int} {t:ByteArray} {A:Option Addr} {c:Nat} {l:List Sexp} (b o:Nat) (vs:Nat->List Value) (hk:(Lit.int .i8 k).wf=true) (ht:(t.size:Int)<=140737488351232) (hc:l.length<=c) (hcm:c<=maxLen) (hlb:l.length * 48<=140737488351232)
   (hA:l=[]\/(A=some ⟨b,o,none⟩/\b < w.heap.size)) (hlen:∀ i,i < l.length->(vs i).length=3/\∀ j u,(vs i)[j]?=some u->w.cell? ⟨b,o+i * 3+j,none⟩=some u)
   (hr:∀ i x,l[i]?=some x->SexpR w (vs i) x):SexpR w [.int .i8 k,.string t,.slice A l.length c] (.mk k t l)
theorem SexpR.open' {w:World} {cs:List Value} {x:Sexp} (h:SexpR w cs x) :
  ∃ A c,cs=[.int .i8 x.kind,.string x.text,.slice A x.l.length c]/\Lies 3 SexpR w A x.l/\x.l.length<=c/\c<=maxLen/\(x.text.size:Int)<=140737488351232/\x.l.length * 48<=140737488351232/\(Lit.int .i8 x.kind).wf=true:=by
 cases h with
 | @mk k t A c l b o vs hk ht hc hcm hlb hA hlen hr =>
  refine⟨A,c,rfl,?_,hc,hcm,ht,hlb,hk⟩;rcases hA with h0 | ⟨hA,hb⟩
  ·exact .inl h0
  ·exact .inr ⟨b,o,hA,hb,fun i x hx=>⟨vs i,(hlen i (gqs hx).1).1,(hlen i (gqs hx).1).2,hr i x hx⟩⟩
theorem SexpR.make {w:World} {A:Option Addr} {k:Int} {t:ByteArray} {c:Nat} {l:List Sexp} (hl:Lies 3 SexpR w A l) (hc:l.length<=c) (hcm:c<=maxLen) (ht:(t.size:Int)<=140737488351232) (hlb:l.length * 48<=140737488351232) (hk:(Lit.int .i8 k).wf=true) :
  SexpR w [.int .i8 k,.string t,.slice A l.length c] (.mk k t l):=by
 rcases hl with h0 | ⟨b,o,hA,hb,hr⟩
 ·subst h0;exact .mk 0 0 (fun _=>[]) hk ht hc hcm hlb (.inl rfl) (fun i hi=>by simp at hi) (fun i x hx=>by simp at hx)
 ·have hch:∀ i,∃ vs:List Value,i < l.length->(vs.length=3/\(∀ j u,vs[j]?=some u->w.cell? ⟨b,o+i * 3+j,none⟩=some u))/\∀ x,l[i]?=some x->SexpR w vs x:=fun i=>by
   by_cases hi:i < l.length
   ·obtain ⟨vs,h1,h2,h3⟩:=hr i _ (gqe hi);exact⟨vs,fun _=>⟨⟨h1,h2⟩,fun x hx=>by rw [gqe hi] at hx;simp at hx;subst hx;exact h3⟩⟩
   ·exact⟨[],fun h=>absurd h hi⟩
  refine .mk b o (fun i=>(hch i).choose) hk ht hc hcm hlb (.inr ⟨hA,hb⟩) (fun i hi=>((hch i).choose_spec hi).1) (fun i x hx=>((hch i).choose_spec (gqs hx).1).2 x hx)
theorem SexpR.lasts:Lasts SexpR:=by
 intro w w' vs x hb h
 induction h with
 | mk b o vs hk ht hc hcm hlb hA hlen hr ih =>
  exact .mk b o vs hk ht hc hcm hlb (hA.imp_right fun⟨h1,h2⟩=>⟨h1,Nat.lt_of_lt_of_le h2 hb.size⟩) (fun i hi=>⟨(hlen i hi).1,fun j u hu=>by
   rcases hA with h0 | ⟨_,h2⟩
   ·subst h0;simp at hi
   ·exact(hb.cell (p:=⟨b,o+i * 3+j,none⟩) h2).trans ((hlen i hi).2 j u hu)⟩) ih
structure Fun4 where
 name:ByteArray
 len:Int
 a0:Int
 a1:Int
 a2:Int
 res:Int
def FunR (_:World) (vs:List Value) (f:Fun4):Prop:=vs=[.string f.name,.int .i64 f.len,.int .i64 f.a0,.int .i64 f.a1,.int .i64 f.a2,.int .i64 f.res]/\(f.name.size:Int)<=140737488351232/\I64 f.len/\I64 f.a0/\I64 f.a1/\I64 f.a2/\I64 f.res
theorem FunR.lasts:Lasts FunR:=fun _ _ _ _ _ h=>h
structure Param where
 name:ByteArray
 sort:Int
def ParamR (_:World) (vs:List Value) (p:Param):Prop:=vs=[.string p.name,.int .i64 p.sort]/\(p.name.size:Int)<=140737488351232/\I64 p.sort
theorem ParamR.lasts:Lasts ParamR:=fun _ _ _ _ _ h=>h
structure Macro where
 name:ByteArray
 params:List Param
 res:Int
 body:Sexp
def MacroR (w:World) (vs:List Value) (m:Macro):Prop:=∃ A c bv,vs=.string m.name :: .slice A m.params.length c :: .int .i64 m.res :: bv/\SexpR w bv m.body/\Lies 2 ParamR w A m.params/\m.params.length<=c/\c<=maxLen/\(m.name.size:Int)<=140737488351232/\I64 m.res
theorem MacroR.lasts:Lasts MacroR:=fun _ _ _ _ hb ⟨A,c,bv,h1,h2,h3,h4⟩=>⟨A,c,bv,h1,SexpR.lasts _ _ _ _ hb h2,h3.on ParamR.lasts hb,h4⟩
structure Sig where
 sorts:List ByteArray
 funs:List Fun4
 macros:List Macro
structure SigAt (w:World) (A1:Option Addr) (c1:Nat) (A2:Option Addr) (c2:Nat) (A3:Option Addr) (c3:Nat) (g:Sig):Prop where
 sorts:Lies 1 StrR w A1 g.sorts
 funs:Lies 6 FunR w A2 g.funs
 macros:Lies 6 MacroR w A3 g.macros
 l1:g.sorts.length<=c1
 l2:g.funs.length<=c2
 l3:g.macros.length<=c3
 m1:c1<=maxLen
 m2:c2<=maxLen
 m3:c3<=maxLen
def SigR (w:World) (vs:List Value) (g:Sig):Prop:=∃ A1 c1 A2 c2 A3 c3,vs=[.slice A1 g.sorts.length c1,.slice A2 g.funs.length c2,.slice A3 g.macros.length c3]/\SigAt w A1 c1 A2 c2 A3 c3 g
theorem SigAt.on {w w':World} {A1 A2 A3:Option Addr} {c1 c2 c3:Nat} {g:Sig} (h:SigAt w A1 c1 A2 c2 A3 c3 g) (hb:Below w.heap.size w w'):SigAt w' A1 c1 A2 c2 A3 c3 g :=
 ⟨h.sorts.on StrR.lasts hb,h.funs.on FunR.lasts hb,h.macros.on MacroR.lasts hb,h.l1,h.l2,h.l3,h.m1,h.m2,h.m3⟩
theorem SigR.lasts:Lasts SigR:=fun _ _ _ _ hb ⟨A1,c1,A2,c2,A3,c3,h1,h2⟩=>⟨A1,c1,A2,c2,A3,c3,h1,h2.on hb⟩
structure Row where
 a0:Int
 a1:Int
 a2:Int
 val:Int
def RowR (_:World) (vs:List Value) (r:Row):Prop:=vs=[.int .i64 r.a0,.int .i64 r.a1,.int .i64 r.a2,.int .i64 r.val]/\I64 r.a0/\I64 r.a1/\I64 r.a2/\I64 r.val
theorem RowR.lasts:Lasts RowR:=fun _ _ _ _ _ h=>h
structure FunVal where
 rows:List Row
 els:Int
def FunValR (w:World) (vs:List Value) (f:FunVal):Prop:=∃ A c,vs=[.slice A f.rows.length c,.int .i64 f.els]/\Lies 4 RowR w A f.rows/\f.rows.length<=c/\c<=maxLen/\I64 f.els/\f.rows.length * 32<=140737488351232
theorem FunValR.lasts:Lasts FunValR:=fun _ _ _ _ hb ⟨A,c,h1,h2,h3⟩=>⟨A,c,h1,h2.on RowR.lasts hb,h3⟩
structure Wrld where
 sizes:List Int
 funs:List FunVal
structure WrldAt (w:World) (A1:Option Addr) (c1:Nat) (A2:Option Addr) (c2:Nat) (x:Wrld):Prop where
 sizes:Lies 1 (IntR .i64) w A1 x.sizes
 funs:Lies 2 FunValR w A2 x.funs
 l1:x.sizes.length<=c1
 l2:x.funs.length<=c2
 m1:c1<=maxLen
 m2:c2<=maxLen
 b1:x.sizes.length * 8<=140737488351232
 b2:x.funs.length * 32<=140737488351232
def WrldR (w:World) (vs:List Value) (x:Wrld):Prop:=∃ A1 c1 A2 c2,vs=[.slice A1 x.sizes.length c1,.slice A2 x.funs.length c2]/\WrldAt w A1 c1 A2 c2 x
theorem WrldAt.on {w w':World} {A1 A2:Option Addr} {c1 c2:Nat} {x:Wrld} (h:WrldAt w A1 c1 A2 c2 x) (hb:Below w.heap.size w w'):WrldAt w' A1 c1 A2 c2 x :=
 ⟨h.sizes.on (IntR.lasts _) hb,h.funs.on FunValR.lasts hb,h.l1,h.l2,h.m1,h.m2,h.b1,h.b2⟩
theorem WrldR.lasts:Lasts WrldR:=fun _ _ _ _ hb ⟨A1,c1,A2,c2,h1,h2⟩=>⟨A1,c1,A2,c2,h1,h2.on hb⟩
end Dt
namespace Dt
open Go.RowKit
mutual
def Sexp.depth:Sexp->Int
 | .mk k _ l=>if k=3 then wrap64 (Sexp.depthL l+1) else 0
def Sexp.depthL:List Sexp->Int
 | []=>0
 | x :: r=>max (Sexp.depth x) (Sexp.depthL r)
end
theorem Sexp.depthL_snoc (l:List Sexp) (x:Sexp):Sexp.depthL (l ++ [x])=max (Sexp.depthL l) (Sexp.depth x):=by
 induction l with
 | nil=>simp [Sexp.depthL];omega
 | cons y r ih=>rw [List.cons_append,Sexp.depthL,ih,Sexp.depthL];omega
theorem Sexp.depth_I64:(x:Sexp)->I64 x.depth
 | .mk k _ l=>by
  unfold Sexp.depth
  split
  ·exact I64_wrap _
  ·exact⟨by omega,by omega⟩
theorem Sexp.depthL_I64:(l:List Sexp)->0<=Sexp.depthL l/\Sexp.depthL l<=9223372036854775807
 | []=>by simp [Sexp.depthL]
 | x :: r=>by
  have h1:=Sexp.depth_I64 x;have h2:=Sexp.depthL_I64 r;obtain ⟨a,b⟩:=h1;unfold Sexp.depthL
  omega
theorem Sexp.depth_eq (x:Sexp):x.depth=if x.kind=3 then wrap64 (Sexp.depthL x.l+1) else 0:=by cases x;rfl
def keyB (l:List UInt8):Bool:=(l.all fun c=>Lx.signI c.toNat) && !l.isEmpty && decide (l.length<=100)
def numB (l:List UInt8):Bool:=isNum l && decide (l.length<=100)
mutual
def Sexp.stands:Sexp->Bool
 | .mk k t l =>
  if k=0 then l.isEmpty && Lx.mayB (Lx.bs t)
  else if k=1 then l.isEmpty && numB (Lx.bs t)
  else if k=2 then l.isEmpty && keyB (Lx.bs t)
  else if k=3 then(Lx.bs t).isEmpty && Sexp.standsL l
  else false
def Sexp.standsL:List Sexp->Bool
 | []=>true
 | x :: r=>Sexp.stands x && Sexp.standsL r
end
theorem Sexp.stands_eq (x:Sexp):x.stands=if x.kind=0 then x.l.isEmpty && Lx.mayB (Lx.bs x.text) else if x.kind=1 then x.l.isEmpty && numB (Lx.bs x.text) else if x.kind=2 then x.l.isEmpty && keyB (Lx.bs x.text) else if x.kind=3 then(Lx.bs x.text).isEmpty && Sexp.standsL x.l else false:=by
 cases x;unfold Sexp.stands;rfl
theorem Sexp.standsL_all (l:List Sexp):Sexp.standsL l=l.all Sexp.stands:=by
 induction l with
 | nil=>rfl
 | cons x r ih=>rw [Sexp.standsL,ih];rfl
def Sexp.may (x:Sexp):Bool:=decide (x.depth<=60) && x.stands
theorem Sexp.mem_lt {x y:Sexp} (h:y ∈ x.l):SizeOf.sizeOf y < SizeOf.sizeOf x:=by
 cases x with
 | mk k t l =>
  have:=List.sizeOf_lt_of_mem h;simp only [Sexp.l] at this;simp only [Sexp.mk.sizeOf_spec]
  omega
end Dt
namespace Bk
open Go.RowKit
theorem new (w:World) (o:Obj):(w.alloc o).heap[w.heap.size]?=some o:=Array.getElem?_push_size
theorem keep {w:World} {b:Nat} {x:Obj} (h:w.heap[b]?=some x) (o:Obj):(w.alloc o).heap[b]?=some x:=(Below.heap_alloc w o b (lt_of_block h)).trans h
theorem on {w w':World} {b:Nat} {x:Obj} (h:w.heap[b]?=some x) (hb:Below w.heap.size w w'):w'.heap[b]?=some x:=(hb.block b (lt_of_block h)).trans h
theorem on' {w w':World} {b B:Nat} {x:Obj} (h:w.heap[b]?=some x) (hb:Below B w w') (hB:b < B):w'.heap[b]?=some x:=(hb.block b hB).trans h
theorem apart {w:World} {b:Nat} {x:Obj} (h:w.heap[b]?=some x) {p:Addr} (hp:b≠p.block) (u:Value):(w.setCell p u).heap[b]?=some x:=(Below.heap_setCell w p u b hp).trans h
theorem set_at {w:World} {b:Nat} {cs:Array Value} {t:TypeId} {fr:Nat × Nat} (h:w.heap[b]?=some (.cells cs t fr)) (j:Nat) (u:Value):(w.setCell ⟨b,j,none⟩ u).heap[b]?=some (.cells (cs.setIfInBounds j u) t fr):=by
 simp [World.setCell,Array.getElem?_modify,h]
theorem c1 {w:World} {b:Nat} {a0:Value} {t:TypeId} (h:w.heap[b]?=some (.cells #[a0] t (0,0))):w.cell? ⟨b,0,none⟩=some a0/\∀ j,w.frozen? ⟨b,j,none⟩=false :=
 ⟨by rw [cell_of_cells h];rfl,fun j=>frozen_of_cells h j⟩
theorem c2 {w:World} {b:Nat} {a0 a1:Value} {t:TypeId} (h:w.heap[b]?=some (.cells #[a0,a1] t (0,0))):w.cell? ⟨b,0,none⟩=some a0/\w.cell? ⟨b,1,none⟩=some a1/\∀ j,w.frozen? ⟨b,j,none⟩=false :=
 ⟨by rw [cell_of_cells h];rfl,by rw [cell_of_cells h];rfl,fun j=>frozen_of_cells h j⟩
theorem c3 {w:World} {b:Nat} {a0 a1 a2:Value} {t:TypeId} (h:w.heap[b]?=some (.cells #[a0,a1,a2] t (0,0))):w.cell? ⟨b,0,none⟩=some a0/\w.cell? ⟨b,1,none⟩=some a1/\w.cell? ⟨b,2,none⟩=some a2/\∀ j,w.frozen? ⟨b,j,none⟩=false :=
 ⟨by rw [cell_of_cells h];rfl,by rw [cell_of_cells h];rfl,by rw [cell_of_cells h];rfl,fun j=>frozen_of_cells h j⟩
theorem c4 {w:World} {b:Nat} {a0 a1 a2 a3:Value} {t:TypeId} (h:w.heap[b]?=some (.cells #[a0,a1,a2,a3] t (0,0))):w.cell? ⟨b,0,none⟩=some a0/\w.cell? ⟨b,1,none⟩=some a1/\w.cell? ⟨b,2,none⟩=some a2/\w.cell? ⟨b,3,none⟩=some a3/\∀ j,w.frozen? ⟨b,j,none⟩=false :=
 ⟨by rw [cell_of_cells h];rfl,by rw [cell_of_cells h];rfl,by rw [cell_of_cells h];rfl,by rw [cell_of_cells h];rfl,fun j=>frozen_of_cells h j⟩
theorem c5 {w:World} {b:Nat} {a0 a1 a2 a3 a4:Value} {t:TypeId} (h:w.heap[b]?=some (.cells #[a0,a1,a2,a3,a4] t (0,0))):w.cell? ⟨b,0,none⟩=some a0/\w.cell? ⟨b,1,none⟩=some a1/\w.cell? ⟨b,2,none⟩=some a2/\w.cell? ⟨b,3,none⟩=some a3/\w.cell? ⟨b,4,none⟩=some a4/\∀ j,w.frozen? ⟨b,j,none⟩=false :=
 ⟨by rw [cell_of_cells h];rfl,by rw [cell_of_cells h];rfl,by rw [cell_of_cells h];rfl,by rw [cell_of_cells h];rfl,by rw [cell_of_cells h];rfl,fun j=>frozen_of_cells h j⟩
theorem c6 {w:World} {b:Nat} {a0 a1 a2 a3 a4 a5:Value} {t:TypeId} (h:w.heap[b]?=some (.cells #[a0,a1,a2,a3,a4,a5] t (0,0))):w.cell? ⟨b,0,none⟩=some a0/\w.cell? ⟨b,1,none⟩=some a1/\w.cell? ⟨b,2,none⟩=some a2/\w.cell? ⟨b,3,none⟩=some a3/\w.cell? ⟨b,4,none⟩=some a4/\w.cell? ⟨b,5,none⟩=some a5/\∀ j,w.frozen? ⟨b,j,none⟩=false :=
 ⟨by rw [cell_of_cells h];rfl,by rw [cell_of_cells h];rfl,by rw [cell_of_cells h];rfl,by rw [cell_of_cells h];rfl,by rw [cell_of_cells h];rfl,by rw [cell_of_cells h];rfl,fun j=>frozen_of_cells h j⟩
theorem c7 {w:World} {b:Nat} {a0 a1 a2 a3 a4 a5 a6:Value} {t:TypeId} (h:w.heap[b]?=some (.cells #[a0,a1,a2,a3,a4,a5,a6] t (0,0))):w.cell? ⟨b,0,none⟩=some a0/\w.cell? ⟨b,1,none⟩=some a1/\w.cell? ⟨b,2,none⟩=some a2/\w.cell? ⟨b,3,none⟩=some a3/\w.cell? ⟨b,4,none⟩=some a4/\w.cell? ⟨b,5,none⟩=some a5/\w.cell? ⟨b,6,none⟩=some a6/\∀ j,w.frozen? ⟨b,j,none⟩=false :=
 ⟨by rw [cell_of_cells h];rfl,by rw [cell_of_cells h];rfl,by rw [cell_of_cells h];rfl,by rw [cell_of_cells h];rfl,by rw [cell_of_cells h];rfl,by rw [cell_of_cells h];rfl,by rw [cell_of_cells h];rfl,fun j=>frozen_of_cells h j⟩
theorem c8 {w:World} {b:Nat} {a0 a1 a2 a3 a4 a5 a6 a7:Value} {t:TypeId} (h:w.heap[b]?=some (.cells #[a0,a1,a2,a3,a4,a5,a6,a7] t (0,0))):w.cell? ⟨b,0,none⟩=some a0/\w.cell? ⟨b,1,none⟩=some a1/\w.cell? ⟨b,2,none⟩=some a2/\w.cell? ⟨b,3,none⟩=some a3/\w.cell? ⟨b,4,none⟩=some a4/\w.cell? ⟨b,5,none⟩=some a5/\w.cell? ⟨b,6,none⟩=some a6/\w.cell? ⟨b,7,none⟩=some a7/\∀ j,w.frozen? ⟨b,j,none⟩=false :=
 ⟨by rw [cell_of_cells h];rfl,by rw [cell_of_cells h];rfl,by rw [cell_of_cells h];rfl,by rw [cell_of_cells h];rfl,by rw [cell_of_cells h];rfl,by rw [cell_of_cells h];rfl,by rw [cell_of_cells h];rfl,by rw [cell_of_cells h];rfl,fun j=>frozen_of_cells h j⟩
theorem c9 {w:World} {b:Nat} {a0 a1 a2 a3 a4 a5 a6 a7 a8:Value} {t:TypeId} (h:w.heap[b]?=some (.cells #[a0,a1,a2,a3,a4,a5,a6,a7,a8] t (0,0))):w.cell? ⟨b,0,none⟩=some a0/\w.cell? ⟨b,1,none⟩=some a1/\w.cell? ⟨b,2,none⟩=some a2/\w.cell? ⟨b,3,none⟩=some a3/\w.cell? ⟨b,4,none⟩=some a4/\w.cell? ⟨b,5,none⟩=some a5/\w.cell? ⟨b,6,none⟩=some a6/\w.cell? ⟨b,7,none⟩=some a7/\w.cell? ⟨b,8,none⟩=some a8/\∀ j,w.frozen? ⟨b,j,none⟩=false :=
 ⟨by rw [cell_of_cells h];rfl,by rw [cell_of_cells h];rfl,by rw [cell_of_cells h];rfl,by rw [cell_of_cells h];rfl,by rw [cell_of_cells h];rfl,by rw [cell_of_cells h];rfl,by rw [cell_of_cells h];rfl,by rw [cell_of_cells h];rfl,by rw [cell_of_cells h];rfl,fun j=>frozen_of_cells h j⟩
theorem c12 {w:World} {b:Nat} {a0 a1 a2 a3 a4 a5 a6 a7 a8 a9 a10 a11:Value} {t:TypeId} (h:w.heap[b]?=some (.cells #[a0,a1,a2,a3,a4,a5,a6,a7,a8,a9,a10,a11] t (0,0))):w.cell? ⟨b,0,none⟩=some a0/\w.cell? ⟨b,1,none⟩=some a1/\w.cell? ⟨b,2,none⟩=some a2/\w.cell? ⟨b,3,none⟩=some a3/\w.cell? ⟨b,4,none⟩=some a4/\w.cell? ⟨b,5,none⟩=some a5/\w.cell? ⟨b,6,none⟩=some a6/\w.cell? ⟨b,7,none⟩=some a7/\w.cell? ⟨b,8,none⟩=some a8/\w.cell? ⟨b,9,none⟩=some a9/\w.cell? ⟨b,10,none⟩=some a10/\w.cell? ⟨b,11,none⟩=some a11/\∀ j,w.frozen? ⟨b,j,none⟩=false :=
 ⟨by rw [cell_of_cells h];rfl,by rw [cell_of_cells h];rfl,by rw [cell_of_cells h];rfl,by rw [cell_of_cells h];rfl,by rw [cell_of_cells h];rfl,by rw [cell_of_cells h];rfl,by rw [cell_of_cells h];rfl,by rw [cell_of_cells h];rfl,by rw [cell_of_cells h];rfl,by rw [cell_of_cells h];rfl,by rw [cell_of_cells h];rfl,by rw [cell_of_cells h];rfl,fun j=>frozen_of_cells h j⟩
end Bk
section
open Go.RowKit
section
variable {P:Program} {w:World}
theorem run_append_at (base:Nat) (t ty e:TypeId) (i:TypeInfo) (z:Value) (size bytes:Nat) (ht:P.underlying t=some (.slice e)) (hi:P.info? e=some i) (hz:i.zero=some z)
  (hsize:i.size=size) (hby:i.bytes=bytes) (hzs:z.cells.size=size) (hsz:0 < size) (v:Value) (n:Nat) (xs:List Value) (hown:w.ownsRow base e size v n xs)
  (A:Option Addr) (m c:Nat) (news:List Value) (hl:news.length=m * size) (hA:Cells w A news) (h1:∀ u ∈ news,u.oneCell'=true)
  (h63:n+m<=maxLen) (hbytes:(n+m) * bytes<=140737488355328) (hbase:base<=w.heap.size) :
  ∃ v' w',(Builtin.append_ #[t,t] ty #[v,.slice A m c]).run P w=.ok v' w'/\w'.ownsRow base e size v' (n+m) (xs ++ news)/\w.grownBy w' v.ownBlock/\(v'.ownBlock=v.ownBlock\/v'.ownBlock=some w.heap.size):=by
 have go:∀ ad:Addr,A=some ad->(∀ j u,news[j]?=some u->w.cell? (ad.add j)=some u) ->
   ∃ v' w',(Builtin.append_ #[t,t] ty #[v,.slice A m c]).run P w=.ok v' w'/\w'.ownsRow base e size v' (n+m) (xs ++ news)/\w.grownBy w' v.ownBlock/\(v'.ownBlock=v.ownBlock\/v'.ownBlock=some w.heap.size):=by
  intro ad hA hc;subst hA;obtain ⟨v',w',hr,ho,hg,_,hat⟩:=run_append_own_at (P:=P) w base t ty e i z size bytes ht hi hz hsize hby hzs hsz v n xs hown ad m c news hl hc h1 h63 hbytes hbase;exact⟨v',w',hr,ho,hg,hat⟩
 rcases hA with h0 | ⟨b,o,hA,_,hc⟩
 ·subst h0
  have hm:m=0:=by
   rcases Nat.eq_zero_or_pos m with h | h
   ·exact h
   ·simp at hl;have:=Nat.mul_pos h hsz;omega
  subst hm
  cases A with
  | some ad=>exact go ad rfl (fun j u hu=>by simp at hu)
  | none =>
   refine⟨v,w,?_,by simpa using hown,World.grownBy.refl w _,.inl rfl⟩;rcases hown.2 with⟨rfl,rfl⟩ | ⟨g,cap,cur,rfl,_,_,hnc,_⟩
   ·simp [Builtin.append_,run_underlying ht,sizeOf,typeInfo,hi,Builtin.lenOf,Builtin.firstCells]
   ·simp [Builtin.append_,run_underlying ht,sizeOf,typeInfo,hi,Builtin.lenOf,Builtin.firstCells,hnc,storeCells]
 ·refine go ⟨b,o,none⟩ hA (fun j u hu=>?_);have:((⟨b,o,none⟩:Addr).add j)=⟨b,o+j,none⟩:=by unfold Addr.add;split <;> simp_all
  rw [this];exact hc j u hu
theorem wp_append_at {o:Oper} {a:Act} {K:Act->World->Prop} {Q:Exit->Act->World->Prop} (s x:Operand) (t:TypeId)
  (ho:o.op=.call { callee:=.builtin .append,args:=#[s,x],argTypes:=#[t,t] })
  (base:Nat) (e:TypeId) (i:TypeInfo) (z:Value) (size bytes:Nat) (ht:P.underlying t=some (.slice e)) (hi:P.info? e=some i) (hz:i.zero=some z)
  (hsize:i.size=size) (hby:i.bytes=bytes) (hzs:z.cells.size=size) (hsz:0 < size) (v:Value) (n:Nat) (xs:List Value) (hs:a.eval s=v) (hown:w.ownsRow base e size v n xs)
  (A:Option Addr) (m c:Nat) (news:List Value) (hx:a.eval x=.slice A m c) (hl:news.length=m * size) (hA:Cells w A news) (h1:∀ u ∈ news,u.oneCell'=true)
  (h63:n+m<=maxLen) (hbytes:(n+m) * bytes<=140737488355328) (hbase:base<=w.heap.size)
  (h:∀ v' w',w'.ownsRow base e size v' (n+m) (xs ++ news)->w.grownBy w' v.ownBlock->(v'.ownBlock=v.ownBlock\/v'.ownBlock=some w.heap.size)->K (a.put o.dst v') w'):o.wp P a w K Q:=by
 obtain ⟨v',w',hrun,h2,h3,h4⟩:=run_append_at (P:=P) (w:=w) base t o.type e i z size bytes ht hi hz hsize hby hzs hsz v n xs hown A m c news hl hA h1 h63 hbytes hbase;unfold Oper.wp execOp;simp only [ho,resolve,invoke,builtin,Sem.run_bind,Sem.run_pure,Result.andThen_ok,List.map_toArray,List.map_cons,List.map_nil,hs,hx,hrun];exact h v' w' h2 h3 h4
theorem wpList_append_at {ops:Array Oper} {rest:List Oper} {o:Oper} {a:Act} {Q:Exit->Act->World->Prop} (hgd:o.guard=none) (s x:Operand) (t:TypeId)
  (ho:o.op=.call { callee:=.builtin .append,args:=#[s,x],argTypes:=#[t,t] })
  (base:Nat) (e:TypeId) (i:TypeInfo) (z:Value) (size bytes:Nat) (ht:P.underlying t=some (.slice e)) (hi:P.info? e=some i) (hz:i.zero=some z)
  (hsize:i.size=size) (hby:i.bytes=bytes) (hzs:z.cells.size=size) (hsz:0 < size) (v:Value) (n:Nat) (xs:List Value) (hs:a.eval s=v) (hown:w.ownsRow base e size v n xs)
  (A:Option Addr) (m c:Nat) (news:List Value) (hx:a.eval x=.slice A m c) (hl:news.length=m * size) (hA:Cells w A news) (h1:∀ u ∈ news,u.oneCell'=true)
  (h63:n+m<=maxLen) (hbytes:(n+m) * bytes<=140737488355328) (hbase:base<=w.heap.size)
  (h:∀ v' w',w'.ownsRow base e size v' (n+m) (xs ++ news)->w.grownBy w' v.ownBlock->(v'.ownBlock=v.ownBlock\/v'.ownBlock=some w.heap.size)->wpList P ops Q rest (a.put o.dst v') w'):wpList P ops Q (o :: rest) a w :=
 wpList_plain hgd fun _ hK=>wp_append_at s x t ho base e i z size bytes ht hi hz hsize hby hzs hsz v n xs hs hown A m c news hx hl hA h1 h63 hbytes hbase fun v' w' h2 h3 h4=>hK _ _ (h v' w' h2 h3 h4)
theorem step_append_at {ops:Array Oper} {o:Oper} {a:Act} {K:Act->World->Prop} {Q:Exit->Act->World->Prop} {E:Prop} (hgd:o.guard=none) (s x:Operand) (t:TypeId)
  (ho:o.op=.call { callee:=.builtin .append,args:=#[s,x],argTypes:=#[t,t] })
  (base:Nat) (e:TypeId) (i:TypeInfo) (z:Value) (size bytes:Nat) (ht:P.underlying t=some (.slice e)) (hi:P.info? e=some i) (hz:i.zero=some z)
  (hsize:i.size=size) (hby:i.bytes=bytes) (hzs:z.cells.size=size) (hsz:0 < size) (v:Value) (n:Nat) (xs:List Value) (hs:a.eval s=v) (hown:w.ownsRow base e size v n xs)
  (A:Option Addr) (m c:Nat) (news:List Value) (hx:a.eval x=.slice A m c) (hl:news.length=m * size) (hA:Cells w A news) (h1:∀ u ∈ news,u.oneCell'=true)
  (h63:n+m<=maxLen) (hbytes:(n+m) * bytes<=140737488355328) (hbase:base<=w.heap.size)
  (h:∀ v' w',w'.ownsRow base e size v' (n+m) (xs ++ news)->w.grownBy w' v.ownBlock->(v'.ownBlock=v.ownBlock\/v'.ownBlock=some w.heap.size)->K (a.put o.dst v') w') :
  if Region.wanted o (yielded ops a.tmps)=true then Oper.wp P o a w K Q else E:=by
 have hw:Region.wanted o (yielded ops a.tmps)=true:=by simp [Region.wanted,hgd]
 rw [if_pos hw];exact wp_append_at s x t ho base e i z size bytes ht hi hz hsize hby hzs hsz v n xs hs hown A m c news hx hl hA h1 h63 hbytes hbase h
end
end
section
open Go.RowKit
def SameIn (lo hi:Nat) (w W:World):Prop:=∀ b,lo<=b->b < hi->W.heap[b]?=w.heap[b]?
theorem SameIn.refl (lo hi:Nat) (w:World):SameIn lo hi w w:=fun _ _ _=>rfl
theorem SameIn.part {lo hi l2 h2:Nat} {w W:World} (h:SameIn lo hi w W) (h1:lo<=l2) (h3:h2<=hi):SameIn l2 h2 w W:=fun b a c=>h b (by omega) (by omega)
theorem SameIn.trans {lo hi:Nat} {w W V:World} (h:SameIn lo hi w W) (k:SameIn lo hi W V):SameIn lo hi w V:=fun b a c=>(k b a c).trans (h b a c)
theorem SameIn.of_below {lo hi:Nat} {w W:World} (h:Below w.heap.size w W) (hh:hi<=w.heap.size):SameIn lo hi w W:=fun b _ c=>h.block b (by omega)
theorem SameIn.setCell (lo hi:Nat) (w:World) (p:Addr) (u:Value) (hp:p.block < lo\/hi<=p.block):SameIn lo hi w (w.setCell p u):=fun b a c=>Below.heap_setCell w p u b (by omega)
theorem SameIn.keeps {S:Nat->Prop} {lo hi:Nat} {w W:World} (h:Keeps S w W) (hh:hi<=w.heap.size) (hS:∀ b,lo<=b->b < hi->¬ S b):SameIn lo hi w W:=fun b a c=>h.block b (by omega) (hS b a c)
section
variable {α:Type} {n:Nat} {val:α->List Value} {Ok:World->α->Prop}
def InOk (Ok:World->α->Prop) (lo hi:Nat) (w:World) (y:α):Prop:=lo<=hi/\hi<=w.heap.size/\∀ W,SameIn lo hi w W->Ok W y
theorem InOk.on {lo hi:Nat} {w W:World} {y:α} (h:InOk Ok lo hi w y) (hs:SameIn lo hi w W) (hz:w.heap.size<=W.heap.size):InOk Ok lo hi W y:=⟨h.1,by have:=h.2.1;omega,fun V hV=>h.2.2 V (hs.trans hV)⟩
theorem InOk.below {lo hi:Nat} {w W:World} {y:α} (h:InOk Ok lo hi w y) (hb:Below w.heap.size w W):InOk Ok lo hi W y:=h.on (SameIn.of_below hb h.2.1) hb.size
theorem InOk.wide {lo hi l2 h2:Nat} {w:World} {y:α} (h:InOk Ok lo hi w y) (h1:l2<=lo) (h3:hi<=h2) (h4:h2<=w.heap.size):InOk Ok l2 h2 w y:=⟨by have:=h.1;omega,h4,fun W hW=>h.2.2 W (hW.part h1 h3)⟩
theorem InOk.now {lo hi:Nat} {w:World} {y:α} (h:InOk Ok lo hi w y):Ok w y:=h.2.2 w (SameIn.refl _ _ _)
def flatV (val:α->List Value):List α->List Value
 | []=>[]
 | y :: r=>val y ++ flatV val r
theorem flatV_append (a b:List α):flatV val (a ++ b)=flatV val a ++ flatV val b:=by
 induction a with
 | nil=>rfl
 | cons x a ih=>simp only [List.cons_append,flatV,ih,List.append_assoc]
theorem flatV_snoc (a:List α) (y:α):flatV val (a ++ [y])=flatV val a ++ val y:=by rw [flatV_append];simp [flatV]
theorem flatV_len (hv:∀ y,(val y).length=n):∀ ys:List α,(flatV val ys).length=ys.length * n
 | []=>by simp [flatV]
 | y :: r=>by simp only [flatV,List.length_append,List.length_cons,hv,flatV_len hv r,Nat.succ_mul];omega
theorem flatV_at (hv:∀ y,(val y).length=n):∀ (ys:List α) (i:Nat) (y:α),ys[i]?=some y->∀ j u,(val y)[j]?=some u->(flatV val ys)[i * n+j]?=some u
 | [],i,y,h=>by simp at h
 | y0 :: r,0,y,h=>fun j u hu=>by
  simp at h;subst h;have hj:=(gqs hu).1;rw [Nat.zero_mul,Nat.zero_add];show(val y0 ++ flatV val r)[j]?=some u;rw [List.getElem?_append_left hj];exact hu
 | y0 :: r,i+1,y,h=>fun j u hu=>by
  have h':r[i]?=some y:=by simpa using h
  have:=flatV_at hv r i y h' j u hu;show(val y0 ++ flatV val r)[(i+1) * n+j]?=some u;rw [List.getElem?_append_right (by rw [hv,Nat.succ_mul];omega),hv,Nat.succ_mul,show i * n+n+j - n=i * n+j by omega];exact this
structure RowOk (n:Nat) (val:α->List Value) (Ok:World->α->Prop) (base:Nat) (t:TypeId) (w:World) (v:Value) (ys:List α):Prop where
 own:w.ownsRow base t n v ys.length (flatV val ys)
 bits:∀ y ∈ ys,∃ lo hi,base<=lo/\InOk Ok lo hi w y/\∀ g,v.ownBlock=some g->¬ (lo<=g/\g < hi)
variable {base:Nat} {t:TypeId} {w w':World} {v:Value} {ys:List α}
theorem RowOk.nil (w:World):RowOk n val Ok base t w (.slice none 0 0) ([]:List α):=⟨⟨by simp [flatV],.inl ⟨rfl,rfl⟩⟩,fun y hy=>by cases hy⟩
theorem RowOk.lt (h:RowOk n val Ok base t w v ys):∀ g,v.ownBlock=some g->base<=g/\g < w.heap.size:=h.own.lt
theorem RowOk.shape (h:RowOk n val Ok base t w v ys):∃ A c,v=.slice A ys.length c/\ys.length<=c/\c<=maxLen:=by
 rcases h.own.2 with⟨h1,h2⟩ | ⟨g,cap,cur,h1,_,_,h2,h3,_⟩
 ·exact⟨none,0,by rw [h2];exact h1,by omega,by unfold maxLen;omega⟩
 ·exact⟨_,cap,h1,h2,h3⟩
theorem RowOk.keep {S:Nat->Prop} (h:RowOk n val Ok base t w v ys) (hk:Keeps S w w') (hS:∀ b,S b->b < base):RowOk n val Ok base t w' v ys:=by
 refine⟨⟨h.own.1,?_⟩,fun y hy=>?_⟩
 ·rcases h.own.2 with h1 | ⟨g,cap,cur,h1,hg,hat,h2⟩
  ·exact .inl h1
  ·exact .inr ⟨g,cap,cur,h1,hg,(hk.block g (lt_of_block hat) (fun hs=>by have:=hS g hs;omega)).trans hat,h2⟩
 ·obtain ⟨lo,hi,h1,h2,h3⟩:=h.bits y hy;exact⟨lo,hi,h1,h2.on (SameIn.keeps hk h2.2.1 (fun b a _ hs=>by have:=hS b hs;omega)) hk.size,h3⟩
theorem RowOk.below (h:RowOk n val Ok base t w v ys) (hb:Below w.heap.size w w'):RowOk n val Ok base t w' v ys:=h.keep (Keeps.of_below hb (fun _=>False)) (fun _ h=>h.elim)
theorem RowOk.push {v':Value} {y:α} {lo hi:Nat} (h:RowOk n val Ok base t w v ys) (ho:w'.ownsRow base t n v' (ys.length+1) (flatV val ys ++ val y)) (hg:w.grownBy w' v.ownBlock)
  (hat:v'.ownBlock=v.ownBlock\/v'.ownBlock=some w.heap.size) (hlo:base<=lo) (hy:InOk Ok lo hi w y) (hno:∀ g,v.ownBlock=some g->¬ (lo<=g/\g < hi)):RowOk n val Ok base t w' v' (ys ++ [y]):=by
 have hsame:∀ l2 h2,h2<=w.heap.size->(∀ g,v.ownBlock=some g->¬ (l2<=g/\g < h2))->SameIn l2 h2 w w':=fun l2 h2 hz hn b a c=>hg.block b (by omega) (fun e=>hn b e.symm ⟨a,c⟩)
 have hown:∀ l2 h2,h2<=w.heap.size->(∀ g,v.ownBlock=some g->¬ (l2<=g/\g < h2))->∀ g,v'.ownBlock=some g->¬ (l2<=g/\g < h2):=fun l2 h2 hz hn g he=>by
  rcases hat with e | e
  ·exact hn g (e ▸ he)
  ·rw [e] at he;cases he;omega
 refine⟨by rw [List.length_append,flatV_snoc];exact ho,fun z hz=>?_⟩;rcases List.mem_append.1 hz with hz | hz
 ·obtain ⟨l2,h2,a,b,c⟩:=h.bits z hz;exact⟨l2,h2,a,b.on (hsame l2 h2 b.2.1 c) hg.size,hown l2 h2 b.2.1 c⟩
 ·obtain rfl:z=y:=by simpa using hz
  exact⟨lo,hi,hlo,hy.on (hsame lo hi hy.2.1 hno) hg.size,hown lo hi hy.2.1 hno⟩
theorem RowOk.lies {α':Type} {A:Option Addr} {k c:Nat} {R:World->List Value->α'->Prop} {f:α->α'} (hv:∀ y,(val y).length=n) (hR:∀ W y,Ok W y->R W (val y) (f y))
  (h:RowOk n val Ok base t w (.slice A k c) ys) {W:World} (hW:SameIn base w.heap.size w W):Lies n R W A (ys.map f):=by
 rcases h.own.2 with⟨h1,h2⟩ | ⟨g,cap,cur,h1,hg,hat,h2,h3,h4,h5⟩
 ·exact .inl (by rw [List.map_eq_nil_iff];exact List.length_eq_zero_iff.1 h2)
 ·simp only [Value.slice.injEq] at h1;have hgl:=lt_of_block hat;have hat':=(hW g hg hgl).trans hat;refine .inr ⟨g,0,h1.1,lt_of_block hat',fun i x hx=>?_⟩;rw [List.getElem?_map] at hx
  cases hy:ys[i]? with
  | none=>rw [hy] at hx;cases hx
  | some y =>
   rw [hy] at hx;obtain rfl:f y=x:=by simpa using hx
   obtain ⟨lo,hi,a,b,_⟩:=h.bits y (mgq hy);refine⟨val y,hv y,fun j u hu=>?_,hR W y (b.2.2 W (hW.part a b.2.1))⟩;rw [Nat.zero_add,cell_of_row W g (i * n+j) cur t (0,0) hat'];have:=flatV_at hv ys i y hy j u hu;rw [← h5,List.getElem?_take] at this
   split at this
   ·simpa using this
   ·cases this
end
end
namespace Dt
open Go.RowKit Go.ChangeShapes Go.WideShapes Go.Deep
theorem cI:Tryz.prog.cellsOf 3=1:=by kernel_rfl
theorem cI8:Tryz.prog.cellsOf 22=1:=by kernel_rfl
section
variable {H:Type} {enc:TypeId × Value->H}
end
end Dt
section
open Go.RowKit
section
variable {P:Program} {w:World}
end
end
section
open Go.RowKit
def behind (md:Region.Mode) (ops:Array Oper) (i:Nat):List Nat:=(List.range ops.size).foldl (fun R j=>if(ops[j]?.map fun o=>o.after.any fun e=>Region.binds md e && (e.on == i || R.contains e.on)) == some true then R ++ [j] else R) []
def waitsAll (md:Region.Mode) (ops:Array Oper) (listed:Array Bool) (m i:Nat):Bool :=
 let R:=behind md ops i
 R.contains m && i != m && R.all (fun r=>(listed.getD r true == false) && ((ops[r]?.map fun o=>o.after.any fun e=>Region.binds md e && (e.on == i || R.contains e.on)) == some true))
section
variable {P:Program} {ops:Array Oper} {Q:Exit->Act->World->Prop} {md:Region.Mode} {S:World->Prop}
def wpHd (P:Program) (md:Region.Mode) (ops:Array Oper) (Q:Exit->Act->World->Prop) (S:World->Prop) (m:Nat):Nat->Array Bool->Act->World->Prop
 | 0,listed,a,w=>Region.ready md ops listed=[]/\Q .normal a w
 | fuel+1,listed,a,w=>(Region.ready md ops listed=[]->Q .normal a w) /\
   ∀ i ∈ Region.ready md ops listed,wpOp P ops Q i (fun a' w'=>((listed.setIfInBounds i true).getD m true=false->S w')/\wpHd P md ops Q S m fuel (listed.setIfInBounds i true) a' w') a w
theorem wpAny_of_hd {m:Nat}:∀ (fuel:Nat) (listed:Array Bool) (a:Act) (w:World),wpHd P md ops Q S m fuel listed a w->wpAny P md ops Q fuel listed a w
 | 0,_,_,_,h=>h
 | fuel+1,_,_,_,h=>⟨h.1,fun i hi=>wpOp_mono (fun a' w' h'=>wpAny_of_hd fuel _ a' w' h'.2) (h.2 i hi)⟩
theorem wpHd_first {m:Nat} {T:World->Prop} {Inv:Array Bool->Prop} {i:Nat} {oi:Oper} {v:Value} (hi:ops[i]?=some oi) (him:i≠m) (hsel:∀ (j:Nat) (o:Oper) cs b,ops[j]?=some o->o.op≠.select cs b) (hQ:∀ c a w,Q (.panic c) (a.put oi.dst v) w->Q (.panic c) a w)
  (hEnd:∀ listed w,Inv listed->T w->listed.getD m true=false->S w)
  (hNext:∀ listed j w,Inv listed->i ∈ Region.ready md ops listed->j ∈ Region.ready md ops listed->j≠i->((listed.setIfInBounds j true).getD m true=false->S w)->T w/\Inv (listed.setIfInBounds j true)) :
  ∀ (fuel:Nat) (listed:Array Bool) (a:Act) (w:World),
   (∀ j oj,ops[j]?=some oj->j≠i->listed.getD j true=false->(∀ e ∈ oj.after,Region.binds md e=true->e.on≠i)->oi.apart ops oj=true) ->
   i ∈ Region.ready md ops listed->YieldsIf P ops T oi v a->T w->Inv listed ->
   wpHd P md ops Q S m fuel (listed.setIfInBounds i true) (a.put oi.dst v) w->wpHd P md ops Q S m (fuel+1) listed a w:=by
 intro fuel
 induction fuel with
 | zero =>
  intro listed a w _ hr hy hT hInv H;refine⟨fun h=>(by rw [h] at hr;cases hr),fun j hj=>?_⟩
  by_cases hji:j=i
  ·subst hji;exact hy.wpOp hi hT ⟨fun he=>hEnd listed w hInv hT (by rwa [getD_set_ne true him] at he),H⟩
  ·have:=ready_mono hj hji;rw [H.1] at this
   cases this
 | succ fuel ih =>
  intro listed a w hfree hr hy hT hInv H;refine⟨fun h=>(by rw [h] at hr;cases hr),fun j hj=>?_⟩
  by_cases hji:j=i
  ·subst hji;exact hy.wpOp hi hT ⟨fun he=>hEnd listed w hInv hT (by rwa [getD_set_ne true him] at he),H⟩
  ·have h1:=H.2 j (ready_mono hj hji);obtain ⟨hjun,oj,hoj,hall⟩:=mem_ready.1 hj
   have hnot:∀ e ∈ oj.after,Region.binds md e=true->e.on≠i:=fun e he hb heq=>by
    have h1:=hall e he hb;have h0:=(mem_ready.1 hr).1;rw [heq] at h1;rcases Nat.lt_or_ge i listed.size with h' | h'
    ·simp [h'] at h0 h1;rw [h0] at h1;cases h1
    ·simp [Array.getElem?_eq_none h'] at h1
   have h2:=wpOp_putIf hoj (hfree j oj hoj hji hjun hnot) (fun cs b=>hsel i oi cs b hi) (fun cs b=>hsel j oj cs b hoj) hQ hy h1
   have hfree':∀ k ok,ops[k]?=some ok->k≠i->(listed.setIfInBounds j true).getD k true=false ->
     (∀ e ∈ ok.after,Region.binds md e=true->e.on≠i)->oi.apart ops ok=true:=fun k ok hk hki hun hno=>by
    refine hfree k ok hk hki ?_ hno
    by_cases hjk:j=k
    ·subst hjk;exact hjun
    ·rw [getD_set_ne true hjk] at hun;exact hun
   refine wpOp_mono (fun a' w' h3=>?_) h2;have hSj:(listed.setIfInBounds j true).getD m true=false->S w':=fun he=>h3.2.1 (by rw [← Array.setIfInBounds_comm _ _ hji,getD_set_ne true him];exact he);obtain ⟨hT',hInv'⟩:=hNext listed j w' hInv hr hj hji hSj;refine⟨hSj,ih (listed.setIfInBounds j true) a' w' hfree' (ready_mono hr (Ne.symm hji)) h3.1 hT' hInv' ?_⟩;rw [Array.setIfInBounds_comm _ _ hji];exact h3.2.2
theorem wpHd_take {i m:Nat} {oi:Oper} {v:Value} {fuel:Nat} {listed:Array Bool} {a:Act} {w:World} (hi:ops[i]?=some oi) (hs:Region.noSelect ops=true) (hf:Region.free md ops listed i=true) (hr:(Region.ready md ops listed).contains i=true) (hw:waitsAll md ops listed m i=true)
  (hQ:∀ c a w,Q (.panic c) (a.put oi.dst v) w->Q (.panic c) a w) (hy:YieldsIf P ops S oi v a) (hS:S w) (h:wpHd P md ops Q S m fuel (listed.setIfInBounds i true) (a.put oi.dst v) w):wpHd P md ops Q S m (fuel+1) listed a w:=by
 unfold waitsAll at hw;simp only [Bool.and_eq_true,List.all_eq_true,beq_iff_eq,bne_iff_ne,ne_eq] at hw;obtain ⟨⟨hm,him⟩,hR⟩:=hw;generalize behind md ops i=R at *;have hm':m ∈ R:=by simpa using hm
 refine wpHd_first (T:=S) (Inv:=fun l=>∀ r ∈ R,l.getD r true=false) hi him (Region.noSelect_spec hs) hQ (fun _ _ _ h _=>h) ?_ fuel listed a w (Region.free_spec hi hf) (by simpa using hr) hy hS (fun r hr=>(hR r hr).1) h;intro l j w' hInv hri hrj hji hSj
 have hun:∀ k,(k=i\/k ∈ R)->l.getD k true=false:=fun k hk=>by
  rcases hk with rfl | hk
  ·exact(mem_ready.1 hri).1
  ·exact hInv k hk
 have hjR:j ∉ R:=fun hjR=>by
  obtain ⟨hjun,oj,hoj,hall⟩:=mem_ready.1 hrj;have h2:=(hR j hjR).2;rw [hoj] at h2;have h3:(oj.after.any fun e=>Region.binds md e && (e.on == i || R.contains e.on))=true:=by simpa using h2
  obtain ⟨k,hk,hq⟩:=Array.any_eq_true.1 h3;rw [Bool.and_eq_true] at hq;have h4:=hall _ (Array.getElem_mem hk) hq.1;have h5:=hun (oj.after[k]).on (by simpa using hq.2);rcases Nat.lt_or_ge (oj.after[k]).on l.size with h' | h'
  ·simp [h'] at h4 h5;rw [h4] at h5;cases h5
  ·simp [Array.getElem?_eq_none h'] at h4
 have hInv':∀ r ∈ R,(l.setIfInBounds j true).getD r true=false:=fun r hr=>by
  have hne:j≠r:=fun e=>by subst e;exact hjR hr
  rw [getD_set_ne true hne];exact hInv r hr
 exact⟨hSj (hInv' m hm'),hInv'⟩
theorem wpHd_late {i m:Nat} {oi:Oper} {v:Value} {fuel:Nat} {listed:Array Bool} {a:Act} {w:World} (hi:ops[i]?=some oi) (hs:Region.noSelect ops=true) (hf:Region.free md ops listed i=true) (hr:(Region.ready md ops listed).contains i=true) (hw:(listed.getD m true && i != m)=true)
  (hQ:∀ c a w,Q (.panic c) (a.put oi.dst v) w->Q (.panic c) a w) (hy:YieldsIf P ops (fun _=>True) oi v a) (h:wpHd P md ops Q S m fuel (listed.setIfInBounds i true) (a.put oi.dst v) w):wpHd P md ops Q S m (fuel+1) listed a w:=by
 simp only [Bool.and_eq_true,bne_iff_ne,ne_eq] at hw;refine wpHd_first (T:=fun _=>True) (Inv:=fun l=>l.getD m true=true) hi hw.2 (Region.noSelect_spec hs) hQ (fun l _ h1 _ h2=>by rw [h1] at h2;cases h2) ?_ fuel listed a w (Region.free_spec hi hf) (by simpa using hr) hy trivial hw.1 h;intro l j w' hInv _ _ _ _;refine⟨trivial,?_⟩
 by_cases hjm:j=m
 ·subst hjm;rcases Nat.lt_or_ge j l.size with h' | h'
  ·simp [h']
  ·simp
 ·rw [getD_set_ne true hjm];exact hInv
theorem wpHd_step {i m:Nat} {o:Oper} {fuel:Nat} {listed:Array Bool} {a:Act} {w:World} (hr:Region.ready md ops listed=[i]) (ho:ops[i]?=some o)
  (h:∀ K':Act->World->Prop,Shut (∀ a w,S w->(S w->wpHd P md ops Q S m fuel (listed.setIfInBounds i true) a w)->K' a w)->if Region.wanted o (yielded ops a.tmps)=true then Oper.wp P o a w K' Q else K' (a.put o.dst undef) w) :
  wpHd P md ops Q S m (fuel+1) listed a w:=by
 refine⟨fun h0=>(by rw [hr] at h0;cases h0),fun j hj=>?_⟩;rw [hr] at hj;obtain rfl:j=i:=by simpa using hj
 exact wpOp_step ho (fun K' hK=>h K' (fun a w hS hW=>hK a w ⟨fun _=>hS,hW hS⟩))
theorem wpHd_last {i m:Nat} {o:Oper} {fuel:Nat} {listed:Array Bool} {a:Act} {w:World} (hr:Region.ready md ops listed=[i]) (ho:ops[i]?=some o) (hm:(listed.setIfInBounds i true).getD m true=true)
  (h:∀ K':Act->World->Prop,Shut (∀ a w,wpHd P md ops Q S m fuel (listed.setIfInBounds i true) a w->K' a w)->if Region.wanted o (yielded ops a.tmps)=true then Oper.wp P o a w K' Q else K' (a.put o.dst undef) w) :
  wpHd P md ops Q S m (fuel+1) listed a w:=by
 refine⟨fun h0=>(by rw [hr] at h0;cases h0),fun j hj=>?_⟩;rw [hr] at hj;obtain rfl:j=i:=by simpa using hj
 exact wpOp_step ho (fun K' hK=>h K' (fun a w hW=>hK a w ⟨fun he=>(by rw [hm] at he;cases he),hW⟩))
theorem wpHd_done {m:Nat} {listed:Array Bool} {a:Act} {w:World} (hr:Region.ready md ops listed=[]) (h:Q .normal a w):∀ fuel,wpHd P md ops Q S m fuel listed a w
 | 0=>⟨hr,h⟩
 | _+1=>⟨fun _=>h,by rw [hr];simp⟩
theorem wp_region_hd {id:Nat} {a:Act} {w:World} (hm:P.follows .mixedOrders=true) (m:Nat) (hS:S w.drew) (h:S w.drew->wpHd P .any ops Q S m ops.size (Array.replicate ops.size false) a w.drew):(Code.region id ops true).wp P Q a w :=
 wp_region_any hm (wpAny_of_hd _ _ _ _ (h hS))
def hl (_:List Nat) (X:Prop):Prop:=X
theorem hl1 (is:List Nat) {X:Prop} (h:hl is X):X:=h
theorem hl0 {X:Prop} (h:X):hl [] X:=h
theorem hwt {d:Option Tmp} {op:Op} {t:TypeId} {pos:String} {af:Array Edge} {g:Option (Nat × Bool)} {i m:Nat} {is:List Nat} {v:Value} {fuel:Nat} {listed:Array Bool} {a:Act} {w:World} (hy:∀ w,S w->(execOp a.eval (Oper.mk d op t pos af g)).run P w=.ok (.value v) w) (h:hl is (wpHd P md ops Q S m fuel (listed.setIfInBounds i true) (a.put (Oper.mk d op t pos af g).dst v) w))
  (hi:ops[i]?=some (Oper.mk d op t pos af g):=by rfl) (hs:Region.noSelect ops=true:=by kernel_rfl) (hf:Region.free md ops listed i=true:=by kernel_rfl) (hr:(Region.ready md ops listed).contains i=true:=by kernel_rfl) (hm:waitsAll md ops listed m i=true:=by kernel_rfl)
  (hQ:∀ c a w,Q (.panic c) (a.put (Oper.mk d op t pos af g).dst v) w->Q (.panic c) a w:=by exact fun _ _ _ h=>h) (hw:Region.wanted (Oper.mk d op t pos af g) (yielded ops a.tmps)=true:=by rfl) (hS:S w:=by assumption):hl (i :: is) (wpHd P md ops Q S m (fuel+1) listed a w):=wpHd_take hi hs hf hr hm hQ (.inl ⟨hw,hy⟩) hS h
theorem hwl {d:Option Tmp} {op:Op} {t:TypeId} {pos:String} {af:Array Edge} {g:Option (Nat × Bool)} {i m:Nat} {is:List Nat} {v:Value} {fuel:Nat} {listed:Array Bool} {a:Act} {w:World} (hy:∀ w,True->(execOp a.eval (Oper.mk d op t pos af g)).run P w=.ok (.value v) w) (h:hl is (wpHd P md ops Q S m fuel (listed.setIfInBounds i true) (a.put (Oper.mk d op t pos af g).dst v) w))
  (hi:ops[i]?=some (Oper.mk d op t pos af g):=by rfl) (hs:Region.noSelect ops=true:=by kernel_rfl) (hf:Region.free md ops listed i=true:=by kernel_rfl) (hr:(Region.ready md ops listed).contains i=true:=by kernel_rfl) (hm:(listed.getD m true && i != m)=true:=by kernel_rfl)
  (hQ:∀ c a w,Q (.panic c) (a.put (Oper.mk d op t pos af g).dst v) w->Q (.panic c) a w:=by exact fun _ _ _ h=>h) (hw:Region.wanted (Oper.mk d op t pos af g) (yielded ops a.tmps)=true:=by rfl):hl (i :: is) (wpHd P md ops Q S m (fuel+1) listed a w):=wpHd_late hi hs hf hr hm hQ (.inl ⟨hw,hy⟩) h
end
end
section
open Go.RowKit
variable {P:Program}
def doorM (P:Program) (fn:Func) (R:Ending->World->Prop):Exit->Act->World->Prop
 | .normal,a,w | .ret,a,w=>LeavesInM Fence.wide 9 P fn a.tmps R a.defers .returning w
 | _,_,_=>False
theorem calls_marks {f:FuncId} {fn:Func} {c:Code} {args:Array Value} {w:World} {R:Ending->World->Prop} (hf:P.funcs[f]?=some fn) (hb:fn.body=some c)
  (h:c.wp P (doorM P fn R) { tmps:=args ++ Array.replicate (fn.ntmps - args.size) undef,defers:=[] } w):Calls P f args w R :=
 callsIn_wide.1 (callsIn_of_wp_marks hf hb trivial (wpIn_wide.2 (wp_mono h (fun e a w he=>by
  cases e with
  | normal=>exact he
  | ret=>exact he
  | exit id=>exact he.elim
  | goto l=>exact he.elim
  | panic ch=>exact he.elim
  | outgrown=>exact he.elim))))
def Marks (B:Nat) (w:World) (ds:List Deferred):Prop:=∃ Ds:List Nat,ds=Ds.map (fun D=>{ target:=.collected D,args:=#[] })/\Ds.Nodup/\∀ D ∈ Ds,B<=D/\w.heap[D]?=some (.deferred (some []))
theorem Marks.nil (B:Nat) (w:World):Marks B w []:=⟨[],rfl,List.nodup_nil,fun _ h=>by cases h⟩
theorem Marks.cons {B D:Nat} {w w':World} {ds:List Deferred} (h:Marks B w ds) (hk:KeepsOthers w w') (hB:B<=D) (hD:w'.heap[D]?=some (.deferred (some []))) (hn:w.heap.size<=D):Marks B w' ({ target:=.collected D,args:=#[] } :: ds):=by
 obtain ⟨Ds,rfl,hnd,hall⟩:=h;refine⟨D :: Ds,rfl,List.nodup_cons.2 ⟨fun hm=>?_,hnd⟩,fun E hE=>?_⟩
 ·have:=(Array.getElem?_eq_some_iff.1 (hall D hm).2).1
  omega
 ·rcases List.mem_cons.1 hE with rfl | hE
  ·exact⟨hB,hD⟩
  ·exact⟨(hall E hE).1,hk.same _ _ (hall E hE).2 rfl⟩
theorem Marks.keep {B:Nat} {w w':World} {ds:List Deferred} (h:Marks B w ds) (hk:KeepsOthers w w'):Marks B w' ds:=by
 obtain ⟨Ds,rfl,hnd,hall⟩:=h;exact⟨Ds,rfl,hnd,fun D hD=>⟨(hall D hD).1,hk.same _ _ (hall D hD).2 rfl⟩⟩
theorem Marks.below {B:Nat} {w w':World} {ds:List Deferred} (h:Marks B w ds) (hb:Below w.heap.size w w'):Marks B w' ds:=by
 obtain ⟨Ds,rfl,hnd,hall⟩:=h;exact⟨Ds,rfl,hnd,fun D hD=>⟨(hall D hD).1,(hb.block D (Array.getElem?_eq_some_iff.1 (hall D hD).2).1).trans (hall D hD).2⟩⟩
theorem leaves_marks {fn:Func} {tmps:Array Value} {R:Ending->World->Prop} {B:Nat}:∀ (Ds:List Nat) (w:World),Ds.Nodup->(∀ D ∈ Ds,B<=D/\w.heap[D]?=some (.deferred (some []))) ->
  (∀ w',(∀ b,(∀ D ∈ Ds,b≠D)->w'.heap[b]?=w.heap[b]?)->Below B w w'->∃ v,(results fn tmps).run P w'=.ok v w'/\R (.returned v) w') ->
  LeavesInM Fence.wide 9 P fn tmps R (Ds.map fun D=>{ target:=.collected D,args:=#[] }) .returning w
 | [],w,_,_,h=>by
  exact h w (fun _ _=>rfl) (Below.refl _ _)
 | D :: Ds,w,hnd,hall,h=>by
  have hD:=hall D (by simp);have hn:=List.nodup_cons.1 hnd;refine⟨by simp,.inl ⟨D,_,rfl,run_takeDeferred hD.2,?_⟩⟩;refine leaves_marks Ds _ hn.2 (fun E hE=>⟨(hall E (by simp [hE])).1,(World.putObj_heap_other (fun e=>by cases e;exact hn.1 hE)).trans (hall E (by simp [hE])).2⟩) (fun w' hw' hb=>?_);have hlt:=(Array.getElem?_eq_some_iff.1 hD.2).1;refine h w' (fun b hbn=>?_) ?_
  ·rw [hw' b (fun E hE=>hbn E (by simp [hE]))];exact World.putObj_heap_other (hbn D (by simp))
  ·refine Below.trans ?_ hb;exact(Below.refl B w).grown (grownBy_putObj' w D _) (by omega) (fun k e=>by cases e;exact hD.1)
theorem Marks.leaves {fn:Func} {tmps:Array Value} {R:Ending->World->Prop} {B:Nat} {w:World} {ds:List Deferred} (hm:Marks B w ds)
  (h:∀ w',(∀ (b:Nat) (o:Obj),w.heap[b]?=some o->o.isCells=true->w'.heap[b]?=some o)->Below B w w'->∃ v,(results fn tmps).run P w'=.ok v w'/\R (.returned v) w'):LeavesInM Fence.wide 9 P fn tmps R ds .returning w:=by
 obtain ⟨Ds,rfl,hnd,hall⟩:=hm;refine leaves_marks Ds w hnd hall (fun w' hw hb=>h w' (fun b o hbo hc=>?_) hb);rw [hw b (fun D hD e=>?_)]
 ·exact hbo
 ·subst e;rw [(hall b hD).2] at hbo
  cases hbo
  cases hc
theorem rowsIn_round {l n:Nat} {row:String} {args:Array Value} {w:World} {R:Value->World->Prop} (h:Rows P row args w R):RowsIn (Fence.wide.inRound l) n P row args w R:=fun c cs _ =>
 let ⟨v,w',r,s⟩:=h c cs
 ⟨v,w',r,stepsIn_wide.2 s⟩
theorem callsIn_round {l n:Nat} {f:FuncId} {args:Array Value} {w:World} {R:Ending->World->Prop} (h:Calls P f args w R):CallsIn (Fence.wide.inRound l) n P f args w R:=CallsIn.inRound l (callsIn_wide.2 h)
def noDefer (ops:Array Oper):Bool:=ops.all fun o=>match o.op with | .defer _=>false | _=>true
theorem noDefer_at {ops:Array Oper} (h:noDefer ops=true) {i:Nat} {o:Oper} (ho:ops[i]?=some o):∀ c,o.op≠.defer c:=fun c e=>by
 unfold noDefer at h;rw [Array.all_eq_true] at h;obtain ⟨hi,rfl⟩:=Array.getElem?_eq_some_iff.1 ho;have:=h i hi;rw [e] at this
 cases this
theorem opsIn_of_ops {ops:Array Oper} {Q:Exit->Act->World->Prop} {l n:Nat} (hd:noDefer ops=true) (hL:¬ LetsOut Q):∀ (is:List Nat) (a:Act) (w:World),wpOps P ops Q is a w->wpOpsIn (Fence.wide.inRound l) n P ops Q is a w
 | [],_,_,h=>h
 | i :: rest,a,w,h=>by
  unfold wpOps at h;unfold wpOpsIn
  cases hi:ops[i]? with
  | none =>
   rw [hi] at h;exact opsIn_of_ops hd hL rest a w h
  | some o =>
   rw [hi] at h;simp only at h ⊢
   split
   ·rename_i hw
    rw [if_pos hw] at h;rcases h with h | ⟨_,h⟩
    ·refine⟨fun _ _=>trivial,?_⟩;rw [show(Fence.wide.inRound l).round=some l from rfl,Oper.semAt_some l _ o (noDefer_at hd hi)];unfold Oper.wp at h;generalize (execOp a.eval o).run P w=r at *
     cases r with
     | ok x w' =>
      cases x <;> simp only [Oper.upon,Oper.uponIn] at h ⊢
      case value v=>exact opsIn_of_ops hd hL rest _ _ h
      case skip=>exact opsIn_of_ops hd hL rest _ _ h
      case defer d=>exact opsIn_of_ops hd hL rest _ _ h
      case enter f args=>exact⟨fun hx=>(by cases hx),callsIn_round (h.mono fun e w2 he=>by cases e <;> first | exact opsIn_of_ops hd hL rest _ _ he | exact he)⟩
      case row row args=>exact⟨fun hx=>(by cases hx),rowsIn_round (h.mono fun v w2 he=>opsIn_of_ops hd hL rest _ _ he)⟩
     | halt x w'=>cases x <;> simp only [Oper.upon,Oper.uponIn] at h ⊢ <;> exact h
    ·exact absurd h hL
   ·rename_i hw
    rw [if_neg hw] at h;exact⟨fun _ _=>trivial,opsIn_of_ops hd hL rest _ _ h⟩
theorem wpIn_region_hd {ops:Array Oper} {Q:Exit->Act->World->Prop} {S:World->Prop} {l n id:Nat} {a:Act} {w:World} (hd:noDefer ops=true) (hL:¬ LetsOut Q) (hm:P.follows .mixedOrders=true) (m:Nat) (hS:S w.drew)
  (h:S w.drew->wpHd P .any ops Q S m ops.size (Array.replicate ops.size false) a w.drew):(Code.region id ops true).wpIn (Fence.wide.inRound l) n P Q a w :=
 wpIn_region_draw fun t=>opsIn_of_ops hd hL _ _ _ (by
  simp only [Region.schedule,hm,Bool.true_or,if_true];exact wpAny_sound ops.size t _ a _ (wpAny_of_hd _ _ _ _ (h hS)))
theorem letsG {α:Type} {B:Nat} {Kp:World->World->Prop} {I:List α->World->Prop} {Ix:Code->List α->World->Prop} {xs:List α} {W:World}:¬ LetsOut (ownPostG B Kp I Ix xs W):=fun⟨_,_,h⟩=>h
theorem lets_block {id:Nat} {Q:Exit->Act->World->Prop} (h:¬ LetsOut Q):¬ LetsOut (Exit.inBlock id Q):=fun⟨a,w,h'⟩=>h ⟨a,w,h'⟩
theorem lets_then {K:Act->World->Prop} {Q:Exit->Act->World->Prop} (h:¬ LetsOut Q):¬ LetsOut (Exit.then K Q):=fun⟨a,w,h'⟩=>h ⟨a,w,h'⟩
end
section
open Go.RowKit
structure PTy (T t:TypeId) (n bytes:Nat):Prop where
 und:Tryz.prog.underlying T=some (.slice t)
 info:∃ z:Value,(Tryz.prog.info? t).map (fun i=>(i.zero,i.size,i.bytes))=some (some z,n,bytes)/\z.cells.size=n
 pos:0 < n
 small:bytes<=1024
structure PRow {α:Type} (val:α->List Value) (t:TypeId) (n base:Nat) (w:World) (v:Value) (xs:List α):Prop where
 own:w.ownsRow base t n v xs.length (flatV val xs)
section
variable {α:Type} {val:α->List Value} {t:TypeId} {n base:Nat} {w w':World} {v:Value} {xs:List α}
theorem PRow.nil (val:α->List Value) (t:TypeId) (n base:Nat) (w:World):PRow val t n base w (.slice none 0 0) []:=⟨by simp [flatV],.inl ⟨rfl,rfl⟩⟩
theorem PRow.shape (h:PRow val t n base w v xs):∃ A c,v=.slice A xs.length c/\xs.length<=c/\c<=maxLen:=by
 rcases h.own.2 with⟨h1,h2⟩ | ⟨g,cap,cur,h1,_,_,h2,h3,_⟩
 ·exact⟨none,0,by rw [h2];exact h1,by omega,by unfold maxLen;omega⟩
 ·exact⟨_,cap,h1,h2,h3⟩
theorem PRow.mono {b2:Nat} (h:PRow val t n base w v xs) (hb:b2<=base):PRow val t n b2 w v xs:=by
 refine⟨h.own.1,?_⟩;rcases h.own.2 with h1 | ⟨g,cap,cur,h1,hg,h2⟩
 ·exact .inl h1
 ·exact .inr ⟨g,cap,cur,h1,by omega,h2⟩
theorem PRow.lt (h:PRow val t n base w v xs):∀ g,v.ownBlock=some g->base<=g/\g < w.heap.size:=h.own.lt
theorem PRow.same (h:PRow val t n base w v xs) (hs:SameIn base w.heap.size w w'):PRow val t n base w' v xs:=by
 refine⟨h.own.1,?_⟩;rcases h.own.2 with h1 | ⟨g,cap,cur,h1,hg,hat,h2⟩
 ·exact .inl h1
 ·exact .inr ⟨g,cap,cur,h1,hg,(hs g hg (lt_of_block hat)).trans hat,h2⟩
theorem PRow.keep {S:Nat->Prop} (h:PRow val t n base w v xs) (hk:Keeps S w w') (hS:∀ b,S b->b < base):PRow val t n base w' v xs:=h.same (SameIn.keeps hk nlq (fun b a _ hs=>by have:=hS b hs;omega))
theorem PRow.below (h:PRow val t n base w v xs) (hb:Below w.heap.size w w'):PRow val t n base w' v xs:=h.same (SameIn.of_below hb nlq)
theorem PRow.block {A:Option Addr} {k c:Nat} (h:PRow val t n base w (.slice A k c) xs) (h0:0 < xs.length):∃ g cur,A=some ⟨g,0,none⟩/\base<=g/\w.heap[g]?=some (.cells cur t (0,0))/\cur.toList.take (xs.length * n)=flatV val xs:=by
 rcases h.own.2 with⟨h1,h2⟩ | ⟨g,cap,cur,h1,hg,hat,h2,h3,h4,h5⟩
 ·omega
 ·simp only [Value.slice.injEq] at h1;exact⟨g,cur,h1.1,hg,hat,h5⟩
theorem PRow.cell {A:Option Addr} {k c:Nat} (hv:∀ x,(val x).length=n) (h:PRow val t n base w (.slice A k c) xs) (h0:0 < xs.length):∃ g,A=some ⟨g,0,none⟩/\base<=g/\g < w.heap.size/\∀ i x,xs[i]?=some x->∀ j u,(val x)[j]?=some u->w.cell? ⟨g,i * n+j,none⟩=some u/\w.frozen? ⟨g,i * n+j,none⟩=false:=by
 obtain ⟨g,cur,hA,hg,hat,hc⟩:=h.block h0;refine⟨g,hA,hg,lt_of_block hat,fun i x hx j u hu=>⟨?_,by unfold World.frozen?;rw [hat];simp⟩⟩;rw [cell_of_row w g (i * n+j) cur t (0,0) hat];have h1:=flatV_at hv xs i x hx j u hu;rw [← hc,List.getElem?_take] at h1
 split at h1
 ·simpa using h1
 ·cases h1
theorem PRow.lies {α':Type} {A:Option Addr} {k c:Nat} {R:World->List Value->α'->Prop} {f:α->α'} (hv:∀ x,(val x).length=n) (hR:∀ W x,R W (val x) (f x)) (h:PRow val t n base w (.slice A k c) xs):Lies n R w A (xs.map f):=by
 by_cases h0:0 < xs.length
 ·obtain ⟨g,rfl,_,hl,hc⟩:=h.cell hv h0;refine .inr ⟨g,0,rfl,hl,fun i x hx=>?_⟩;rw [List.getElem?_map] at hx
  cases hy:xs[i]? with
  | none=>rw [hy] at hx;cases hx
  | some y =>
   rw [hy] at hx;obtain rfl:f y=x:=by simpa using hx
   exact⟨val y,hv y,fun j u hu=>by rw [Nat.zero_add];exact(hc i y hy j u hu).1,hR w y⟩
 ·exact .inl (by rw [List.map_eq_nil_iff];exact List.length_eq_zero_iff.1 (by omega))
theorem cells_of_block {b:Nat} {l:List Value} {z:Nat × Nat} (h:w.heap[b]?=some (.cells l.toArray t z)):Cells w (some ⟨b,0,none⟩) l:=by
 refine .inr ⟨b,0,rfl,lt_of_block h,fun j u hu=>?_⟩;rw [cell_of_cells h,Nat.zero_add,List.getElem?_toArray];exact hu
theorem PRow.of_owns {v':Value} {x:α} (ho:w'.ownsRow base t n v' (xs.length+1) (flatV val xs ++ val x)):PRow val t n base w' v' (xs ++ [x]):=⟨by
 rw [List.length_append,flatV_snoc];exact ho⟩
theorem push_row {T:TypeId} {bytes:Nat} (hT:PTy T t n bytes) (hv:∀ x,(val x).length=n) (h1:∀ x,∀ u ∈ val x,u.oneCell'=true) {ops:Array Oper} {rest:List Oper} {o:Oper} {a:Act} {Q:Exit->Act->World->Prop} (hgd:o.guard=none) (s x:Operand) (ho:o.op=.call { callee:=.builtin .append,args:=#[s,x],argTypes:=#[T,T] })
  {A:Option Addr} {c b m:Nat} {u:α} {z:Nat × Nat} (hn:xs.length=m) (hs:a.eval s=.slice A m c) (h:PRow val t n base w (.slice A m c) xs) (hx:a.eval x=.slice (some ⟨b,0,none⟩) 1 1) (hb:w.heap[b]?=some (.cells (val u).toArray t z)) (hlen:m < 100000000000) (hbase:base<=w.heap.size)
  (hK:∀ A9 c9 w9,PRow val t n base w9 (.slice A9 (m+1) c9) (xs ++ [u])->w.grownBy w9 (Value.slice A m c).ownBlock->wpList Tryz.prog ops Q rest (a.put o.dst (.slice A9 (m+1) c9)) w9):wpList Tryz.prog ops Q (o :: rest) a w:=by
 subst hn;obtain ⟨z0,hi,hz⟩:=hT.info;have hsm:=hT.small;obtain ⟨i0,hi0,e0,e1,e2⟩:=info_parts hi;refine wpList_append_at hgd s x _ ho base t i0 z0 n bytes hT.und hi0 e0 e1 e2 hz hT.pos (.slice A xs.length c) xs.length (flatV val xs) hs h.own (some ⟨b,0,none⟩) 1 1 (val u) hx (by rw [hv,Nat.one_mul]) (cells_of_block hb) (h1 u) (by unfold maxLen;omega) (Nat.le_trans (Nat.mul_le_mul_left _ hsm) (by omega)) hbase ?_;intro v' w9 hown hgr _;have hp:=PRow.of_owns hown;obtain ⟨A9,c9,hv',_,_⟩:=hp.shape;rw [List.length_append] at hv';subst hv';exact hK A9 c9 w9 hp hgr
theorem push_rstep {T:TypeId} {bytes:Nat} (hT:PTy T t n bytes) (hv:∀ x,(val x).length=n) (h1:∀ x,∀ u ∈ val x,u.oneCell'=true) {ops:Array Oper} {o:Oper} {a:Act} {K:Act->World->Prop} {Q:Exit->Act->World->Prop} {E:Prop} (hgd:o.guard=none) (s x:Operand) (ho:o.op=.call { callee:=.builtin .append,args:=#[s,x],argTypes:=#[T,T] })
  {A:Option Addr} {c b m:Nat} {u:α} {z:Nat × Nat} (hn:xs.length=m) (hs:a.eval s=.slice A m c) (h:PRow val t n base w (.slice A m c) xs) (hx:a.eval x=.slice (some ⟨b,0,none⟩) 1 1) (hb:w.heap[b]?=some (.cells (val u).toArray t z)) (hlen:m < 100000000000) (hbase:base<=w.heap.size)
  (hK:∀ A9 c9 w9,PRow val t n base w9 (.slice A9 (m+1) c9) (xs ++ [u])->w.grownBy w9 (Value.slice A m c).ownBlock->K (a.put o.dst (.slice A9 (m+1) c9)) w9) :
  if Region.wanted o (yielded ops a.tmps)=true then Oper.wp Tryz.prog o a w K Q else E:=by
 subst hn;obtain ⟨z0,hi,hz⟩:=hT.info;have hsm:=hT.small;obtain ⟨i0,hi0,e0,e1,e2⟩:=info_parts hi;refine step_append_at hgd s x _ ho base t i0 z0 n bytes hT.und hi0 e0 e1 e2 hz hT.pos (.slice A xs.length c) xs.length (flatV val xs) hs h.own (some ⟨b,0,none⟩) 1 1 (val u) hx (by rw [hv,Nat.one_mul]) (cells_of_block hb) (h1 u) (by unfold maxLen;omega) (Nat.le_trans (Nat.mul_le_mul_left _ hsm) (by omega)) hbase ?_;intro v' w9 hown hgr _;have hp:=PRow.of_owns hown;obtain ⟨A9,c9,hv',_,_⟩:=hp.shape;rw [List.length_append] at hv';subst hv';exact hK A9 c9 w9 hp hgr
theorem flatV_set (hv:∀ x,(val x).length=n):∀ (xs:List α) (i j:Nat) (x y:α) (u:Value),xs[i]?=some x->j < n->val y=(val x).set j u->flatV val (xs.set i y)=(flatV val xs).set (i * n+j) u
 | [],i,_,_,_,_,h,_,_=>by simp at h
 | x0 :: r,0,j,x,y,u,h,hj,e=>by
  obtain rfl:x0=x:=by simpa using h
  show val y ++ flatV val r=(val x0 ++ flatV val r).set (0 * n+j) u;rw [Nat.zero_mul,Nat.zero_add,List.set_append_left _ _ (by rw [hv];exact hj),e]
 | x0 :: r,i+1,j,x,y,u,h,hj,e=>by
  show val x0 ++ flatV val (r.set i y)=(val x0 ++ flatV val r).set ((i+1) * n+j) u;rw [List.set_append_right _ _ (by rw [hv,Nat.succ_mul];omega),hv,flatV_set hv r i j x y u (by simpa using h) hj e,show(i+1) * n+j - n=i * n+j by rw [Nat.succ_mul];omega]
theorem PRow.set {A:Option Addr} {k c g i j:Nat} {x y:α} {u:Value} (hv:∀ x,(val x).length=n) (h:PRow val t n base w (.slice A k c) xs) (hA:A=some ⟨g,0,none⟩) (hx:xs[i]?=some x) (hj:j < n) (e:val y=(val x).set j u):PRow val t n base (w.setCell ⟨g,i * n+j,none⟩ u) (.slice A k c) (xs.set i y):=by
 have hil:=(gqs hx).1;obtain ⟨g',cur,hA',hg,hat,hc⟩:=h.block (by omega);rw [hA] at hA'
 cases hA'
 have hown:=h.own;refine⟨by rw [flatV_len hv],.inr ?_⟩;rcases hown.2 with⟨h1,h2⟩ | ⟨g2,cap,cur2,h1,hg2,hat2,h2,h3,h4,h5⟩
 ·omega
 ·simp only [Value.slice.injEq] at h1;obtain ⟨hA2,hk2,hc2⟩:=h1;rw [hA] at hA2
  cases hA2
  rw [hat] at hat2
  cases hat2
  have hset:=Bk.set_at hat (i * n+j) u;refine⟨g,cap,_,by rw [hA,hk2,hc2,List.length_set],hg,hset,by rw [List.length_set];exact h2,h3,by simpa using h4,?_⟩;rw [Array.toList_setIfInBounds,List.take_set,flatV_set hv xs i j x y u hx hj e]
  congr 1
  rw [List.length_set];exact h5
end
end
section
open Go.RowKit
def CellsKept (W W':World):Prop:=W.heap.size<=W'.heap.size/\∀ (b:Nat) (c:Array Value) (t:TypeId) (z:Nat × Nat),W.heap[b]?=some (.cells c t z)->W'.heap[b]?=some (.cells c t z)
theorem CellsKept.of {W W':World} {row:Option Nat} (hg:W.grownBy W' row) (hr:∀ r,row=some r->∃ o:Obj,W.heap[r]?=some o/\o.isCells=false):CellsKept W W':=⟨hg.size,fun b c t z h=>(hg.block b (lt_of_block h) (fun e=>by
 obtain ⟨o,ho,hc⟩:=hr b e.symm;rw [h] at ho
 cases ho
 cases hc)).trans h⟩
theorem CellsKept.own {B:Nat} {W W':World} {row:Option Nat} (hg:W.grownBy W' row) (hr:∀ r,row=some r->B<=r/\∃ o:Obj,W.heap[r]?=some o/\o.isCells=false):CellsKept W W':=.of hg (fun r e=>(hr r e).2)
theorem CellsKept.cell {W W':World} (h:CellsKept W W') {p:Addr} {v:Value} (hc:W.cell? p=some v):W'.cell? p=some v:=by
 unfold World.cell? at *
 cases hb:W.heap[p.block]? with
 | none=>rw [hb] at hc;cases hc
 | some o =>
  rw [hb] at hc
  cases o with
  | cells c t z=>rw [h.2 _ _ _ _ hb];exact hc
  | _=>cases hc
theorem PRow.kept {α:Type} {val:α->List Value} {t:TypeId} {n base:Nat} {w w':World} {v:Value} {xs:List α} (h:PRow val t n base w v xs) (hk:CellsKept w w'):PRow val t n base w' v xs:=by
 refine⟨h.own.1,?_⟩;rcases h.own.2 with h1 | ⟨g,cap,cur,h1,hg,hat,h2⟩
 ·exact .inl h1
 ·exact .inr ⟨g,cap,cur,h1,hg,hk.2 _ _ _ _ hat,h2⟩
theorem PRow.row_cells {α:Type} {val:α->List Value} {t:TypeId} {n base:Nat} {w:World} {v:Value} {xs:List α} (h:PRow val t n base w v xs):∀ (j:Nat) (o:Obj),v.ownBlock=some j->w.heap[j]?=some o->o.isCells=true:=fun j o hj ho=>by
 rcases h.own.2 with⟨h1,_⟩ | ⟨g,cap,cur,h1,_,hat,_⟩
 ·subst h1;cases hj
 ·subst h1
  cases hj
  rw [hat] at ho
  cases ho
  rfl
theorem others_of_below {W W':World} (h:Below W.heap.size W W'):KeepsOthers W W':=⟨h.size,fun k _ hk _=>(h.block k (lt_of_block hk)).trans hk⟩
theorem Marks.one {B D:Nat} {w:World} (hB:B<=D) (hD:w.heap[D]?=some (.deferred (some []))):Marks B w [{ target:=.collected D,args:=#[] }]:=⟨[D],rfl,by simp,fun E hE=>by
 obtain rfl:E=D:=by simpa using hE
 exact⟨hB,hD⟩⟩
theorem push_rowIn {α:Type} {val:α->List Value} {t:TypeId} {n base:Nat} {w:World} {xs:List α} {F:Fence} {fu:Nat} {T:TypeId} {bytes:Nat} (hT:PTy T t n bytes) (hv:∀ x,(val x).length=n) (h1:∀ x,∀ u ∈ val x,u.oneCell'=true) {ops:Array Oper} {rest:List Oper} {o:Oper} {a:Act} {Q:Exit->Act->World->Prop} (hgd:o.guard=none) (s x:Operand) (ho:o.op=.call { callee:=.builtin .append,args:=#[s,x],argTypes:=#[T,T] })
  {A:Option Addr} {c b m:Nat} {u:α} {z:Nat × Nat} (hn:xs.length=m) (hs:a.eval s=.slice A m c) (h:PRow val t n base w (.slice A m c) xs) (hx:a.eval x=.slice (some ⟨b,0,none⟩) 1 1) (hb:w.heap[b]?=some (.cells (val u).toArray t z)) (hlen:m < 100000000000) (hbase:base<=w.heap.size)
  (hK:∀ A9 c9 w9,PRow val t n base w9 (.slice A9 (m+1) c9) (xs ++ [u])->w.grownBy w9 (Value.slice A m c).ownBlock->wpListIn F fu Tryz.prog ops Q rest (a.put o.dst (.slice A9 (m+1) c9)) w9):wpListIn F fu Tryz.prog ops Q (o :: rest) a w:=by
 subst hn;obtain ⟨z0,hi,hz⟩:=hT.info;have hsm:=hT.small;obtain ⟨i0,hi0,e0,e1,e2⟩:=info_parts hi;refine wpListIn_append_own w hgd s x T ho base t i0 z0 n bytes hT.und hi0 e0 e1 e2 hz hT.pos (.slice A xs.length c) xs.length (flatV val xs) hs h.own ⟨b,0,none⟩ 1 1 (val u) hx (by rw [hv,Nat.one_mul]) (fun j u' hu=>?_) (h1 u) (by unfold maxLen;omega) (Nat.le_trans (Nat.mul_le_mul_left _ hsm) (by omega)) hbase ?_
 ·have:((⟨b,0,none⟩:Addr).add j)=⟨b,j,none⟩:=by unfold Addr.add;split <;> simp_all
  rw [this,cell_of_cells hb,List.getElem?_toArray];exact hu
 ·intro v' w9 hown hgr _;have hp:=PRow.of_owns hown;obtain ⟨A9,c9,hv',_,_⟩:=hp.shape;rw [List.length_append] at hv';subst hv';exact hK A9 c9 w9 hp hgr
variable {P:Program}
theorem wp_rangeH {α:Type} {g:Operand} {ps:Array Tmp} {assign body:Code} {Q:Exit->Act->World->Prop} {a:Act} {w:World} {gf:Nat} {lb:Array Value} (hg:a.eval g=.func (.func gf) #[] lb) (eg:∀ args w,(callFunc gf args).run P w=.ok (.enter gf args) w)
  {encs:α->Array Value} {Kp:World->World->Prop} {S Sp:List α->Prop} {N:Nat} (hseq:SeqStopsK Fence.wide 9 P gf lb encs Kp S Sp N w)
  (hKt:∀ {A B C:World},Kp A B->Kp B C->Kp A C) (hKb:∀ (W:World) (l:Nat) (o o':Obj),w.heap.size<=l->W.heap[l]?=some o->o.isCells=false->o.isWalk=false->Kp W (W.putObj l o')) (hps:∀ x,(encs x).size=ps.size)
  (I:List α->World->Prop) (Ix:Code->List α->World->Prop) (hI:OwnFrom w.heap.size I) (hIx:∀ c,OwnFrom w.heap.size (Ix c)) (h0:I [] w) (Ax:α->Act->World->Prop) (hAx:∀ x a',OwnFrom w.heap.size (fun(_:Unit) W=>Ax x a' W))
  (hassign:∀ (l:Nat) (pre:List α) (x:α) (W:World) (K:Act->World->Prop),I pre W->(∀ a' W',KeepsFrom w.heap.size W W'->Kp W W'->I pre W'->Ax x a' W'->K a' W') ->
   assign.wpIn (Fence.wide.inRound l) 8 P (Exit.then K (fun _ _ _=>False)) { tmps:=(ps.zip (encs x)).foldl (fun t (p,v)=>t.setIfInBounds p v) a.tmps,defers:=[] } W)
  (hbody:∀ (l:Nat) (pre:List α) (x:α) (a':Act) (W:World),I pre W->Ax x a' W->pre.length < N->body.wpIn (Fence.wide.inRound l) 8 P (ownPostG w.heap.size Kp I Ix (pre ++ [x]) W) a' W)
  (hdone:∀ (D:Nat) (xs:List α) (W:World),w.heap.size<=D->S xs->I xs W->W.heap[D]?=some (.deferred (some []))->Q .normal { a with defers:={ target:=.collected D,args:=#[] } :: a.defers } W)
  (hstop:∀ (D:Nat) (c:Code) (pre:List α) (W:World),w.heap.size<=D->Sp pre->Ix c pre W->W.heap[D]?=some (.deferred (some []))->c.wp P Q { a with defers:={ target:=.collected D,args:=#[] } :: a.defers } W) :
  (Code.rangeFunc g ps assign body).wp P Q a w :=
 wpIn_wide.1 (wpIn_rangeFunc_ownH (n:=10) rfl (by decide) hg trivial eg hseq (fun h k=>hKt h k) hKb (Below.refl _ _) hps I Ix hI hIx h0 Ax hAx hassign (fun l pre x a' W _ _ h1 h2 h3=>hbody l pre x a' W h1 h2 h3) hdone (fun D c pre W h1 h2 h3 h4=>wpIn_wide.2 (hstop D c pre W h1 h2 h3 h4)))
end
section
open Go.RowKit
noncomputable def eqB {α:Type} (a b:α):Bool:=@decide (a=b) (Classical.propDecidable _)
theorem eqB_true {α:Type} {a b:α}:eqB a b=true ↔ a=b:=@decide_eq_true_iff (a=b) (Classical.propDecidable _)
theorem eqB_false {α:Type} {a b:α}:eqB a b=false ↔ a≠b:=@decide_eq_false_iff_not (a=b) (Classical.propDecidable _)
section
variable {α:Type} {xs ys:List α} {k:Nat} {d:α}
theorem eqB_len (h:¬ xs.length=ys.length):eqB xs ys=false:=eqB_false.2 fun e=>h (by rw [e])
theorem eqB_full (h:xs.length=ys.length) (ht:xs.take xs.length=ys.take xs.length):eqB xs ys=true :=
 eqB_true.2 (by rw [List.take_length,h,List.take_length] at ht;exact ht)
theorem eqB_step (hx:k < xs.length) (hy:k < ys.length):(xs.getD k d=ys.getD k d->xs.take k=ys.take k->xs.take (k+1)=ys.take (k+1))/\(xs.getD k d≠ys.getD k d->eqB xs ys=false):=by
 constructor
 ·intro h1 h2;rw [List.take_succ_eq_append_getElem hx,List.take_succ_eq_append_getElem hy,h2];rw [List.getD_eq_getElem?_getD,List.getD_eq_getElem?_getD,gqe hx,gqe hy] at h1
  congr 2
 ·intro h;exact eqB_false.2 fun e=>h (by rw [e])
theorem eqB_next {x y:α} (hx:xs[k]?=some x) (hy:ys[k]?=some y):(x=y->xs.take k=ys.take k->xs.take (k+1)=ys.take (k+1))/\(x≠y->eqB xs ys=false):=by
 constructor
 ·intro h1 h2;rw [List.take_add_one,List.take_add_one,hx,hy,h1,h2]
 ·intro h;exact eqB_false.2 fun e=>h (by rw [e,hy] at hx;exact(Option.some.inj hx).symm)
end
theorem cells_get {w:World} {A:Option Addr} {l:List Int} (h:Cells w A (l.map (Value.int .i64))) {k:Nat} (hk:k < l.length):∃ b o,A=some ⟨b,o,none⟩/\w.cell? ⟨b,o+k,none⟩=some (.int .i64 (l.getD k 0)):=by
 rcases h with h | ⟨b,o,hA,_,hc⟩
 ·have:=congrArg List.length h;simp at this;subst this;simp at hk
 ·refine⟨b,o,hA,hc k _ ?_⟩;rw [List.getElem?_map,List.getD_eq_getElem?_getD,gqe hk]
  rfl
end
section
open Go.RowKit
structure Grows {α:Type} (n:Nat) (R:World->List Value->α->Prop) (t:TypeId) (w0:World) (base:Nat) (w:World) (v:Value) (xs:List α):Prop where
 row:∃ vals,w.ownsRow base t n v xs.length vals/\∀ i x,xs[i]?=some x->∃ vs:List Value,vs.length=n/\R w0 vs x/\∀ j u,vs[j]?=some u->vals[i * n+j]?=some u
section
variable {α:Type} {n:Nat} {R:World->List Value->α->Prop} {t:TypeId} {w0 w w':World} {base:Nat} {v:Value} {xs:List α}
theorem Grows.nil (w:World):Grows n R t w0 base w (.slice none 0 0) ([]:List α):=⟨[],⟨by simp,.inl ⟨rfl,rfl⟩⟩,fun i x hx=>by simp at hx⟩
theorem Grows.shape (h:Grows n R t w0 base w v xs):∃ A c,v=.slice A xs.length c/\xs.length<=c/\c<=maxLen:=by
 obtain ⟨vals,ho,_⟩:=h.row;rcases ho.2 with⟨h1,h2⟩ | ⟨g,cap,cur,h1,_,_,h2,h3,_⟩
 ·exact⟨none,0,by rw [h2];exact h1,by omega,by unfold maxLen;omega⟩
 ·exact⟨_,cap,h1,h2,h3⟩
theorem Grows.lt (h:Grows n R t w0 base w v xs):∀ k,v.ownBlock=some k->base<=k/\k < w.heap.size:=by
 obtain ⟨vals,ho,_⟩:=h.row;exact ho.lt
theorem Grows.lies {A:Option Addr} {c:Nat} (hR:Lasts R) (hb:Below w0.heap.size w0 w) (h:Grows n R t w0 base w (.slice A xs.length c) xs):Lies n R w A xs:=by
 obtain ⟨vals,ho,hr⟩:=h.row;rcases ho.2 with⟨h1,h2⟩ | ⟨g,cap,cur,h1,hg,hat,h2,h3,h4,h5⟩
 ·exact .inl (List.length_eq_zero_iff.1 h2)
 ·simp only [Value.slice.injEq] at h1;refine .inr ⟨g,0,h1.1,(Array.getElem?_eq_some_iff.1 hat).1,fun i x hx=>?_⟩;obtain ⟨vs,e1,e2,e3⟩:=hr i x hx;refine⟨vs,e1,fun j u hu=>?_,hR _ _ _ _ hb e2⟩;rw [Nat.zero_add,cell_of_row w g (i * n+j) cur t (0,0) hat];have:=e3 j u hu;rw [← h5,List.getElem?_take] at this
  split at this
  ·simpa using this
  ·cases this
theorem Grows.kept {row:Option Nat} (h:Grows n R t w0 base w v xs) (hg:w.grownBy w' row) (hne:v.ownBlock=none\/v.ownBlock≠row):Grows n R t w0 base w' v xs:=by
 obtain ⟨vals,ho,hr⟩:=h.row;exact⟨vals,ho.kept hg hne,hr⟩
theorem grown_of_below (hb:Below w.heap.size w w'):w.grownBy w' none:=⟨hb.os,hb.tape,hb.output,hb.size,fun k hk _=>hb.block k hk⟩
theorem Grows.below (h:Grows n R t w0 base w v xs) (hb:Below w.heap.size w w'):Grows n R t w0 base w' v xs :=
 h.kept (grown_of_below hb) (by cases v.ownBlock <;> simp)
theorem Grows.alloc (h:Grows n R t w0 base w v xs) (o:Obj):Grows n R t w0 base (w.alloc o) v xs:=h.kept (World.grownBy_alloc w o none) (by cases v.ownBlock <;> simp)
theorem Grows.setCell (h:Grows n R t w0 base w v xs) {p:Addr} (u:Value) (hp:p.block < base):Grows n R t w0 base (w.setCell p u) v xs:=by
 obtain ⟨vals,ho,hr⟩:=h.row;refine⟨vals,⟨ho.1,?_⟩,hr⟩;rcases ho.2 with h1 | ⟨g,cap,cur,h1,h2,h3,h4⟩
 ·exact .inl h1
 ·exact .inr ⟨g,cap,cur,h1,h2,(Below.heap_setCell w p u g (by omega)).trans h3,h4⟩
theorem Grows.push {v':Value} {vals vs:List Value} {x:α} (hl:vals.length=xs.length * n) (hr:∀ i x,xs[i]?=some x->∃ vs:List Value,vs.length=n/\R w0 vs x/\∀ j u,vs[j]?=some u->vals[i * n+j]?=some u)
  (ho:w'.ownsRow base t n v' (xs.length+1) (vals ++ vs)) (hx:R w0 vs x) (hvs:vs.length=n):Grows n R t w0 base w' v' (xs ++ [x]):=by
 refine⟨vals ++ vs,by rw [List.length_append];exact ho,fun i y hy=>?_⟩
 by_cases hi:i < xs.length
 ·rw [List.getElem?_append_left hi] at hy;obtain ⟨us,e1,e2,e3⟩:=hr i y hy;refine⟨us,e1,e2,fun j u hu=>?_⟩;have:=e3 j u hu;rw [List.getElem?_append_left (gqs this).1];exact this
 ·have hi':i=xs.length:=by
   have:=(gqs hy).1;simp at this;omega
  subst hi';simp at hy;subst hy;refine⟨vs,hvs,hx,fun j u hu=>?_⟩;rw [List.getElem?_append_right (by rw [hl];omega),hl,show xs.length * n+j - xs.length * n=j by omega];exact hu
end
end
section
open Go.RowKit Go.Maps
theorem plainElem_bool_inv {P:Program} {e:TypeId} (he:P.underlying e=some .bool) {v:Value} {z:DataW Unit × List MemPlace} (h:plainElem P e v=some z):∃ b,v=.bool b/\z=(.lit (.bool b),[]):=by
 unfold plainElem at h;rw [he] at h
 split at h
 ·rename_i x _;cases h;exact⟨_,rfl,rfl⟩
 all_goals simp_all
def BoolMap (P:Program) (k e:TypeId) (w:World) (b n:Nat) (S:Value->Prop):Prop :=
 ∃ D:DataW Unit,w.ownsMap P k (plainElem P e) b n D/\∀ key kl,keyOf P k key=some kl->∃ c,D.atKey kl (.lit (.bool false))=.lit (.bool c)/\(c=true ↔ S key)
section
variable {P:Program} {k e t:TypeId} {w:World} {b n:Nat} {S:Value->Prop}
theorem BoolMap.made (w:World) (P:Program) (k e:TypeId):BoolMap P k e (w.alloc (.map #[] 0)) w.heap.size 0 (fun _=>False) :=
 ⟨.map [],World.ownsMap_made w P k _,fun _ _ _=>⟨false,rfl,by simp⟩⟩
theorem BoolMap.kept {w':World} {row:Option Nat} (h:BoolMap P k e w b n S) (hg:w.grownBy w' row) (hne:some b≠row):BoolMap P k e w' b n S:=by
 obtain ⟨D,h1,h2⟩:=h;exact⟨D,h1.kept hg hne,h2⟩
theorem BoolMap.lt (h:BoolMap P k e w b n S):b < w.heap.size:=by obtain ⟨D,h1,_⟩:=h;exact h1.lt
theorem BoolMap.alloc (h:BoolMap P k e w b n S) (o:Obj):BoolMap P k e (w.alloc o) b n S:=by obtain ⟨D,h1,h2⟩:=h;exact⟨D,h1.alloc o,h2⟩
theorem BoolMap.keeps {T:Nat->Prop} {w':World} (h:BoolMap P k e w b n S) (hk:Keeps T w w') (hT:¬ T b):BoolMap P k e w' b n S:=by
 obtain ⟨D,⟨es,clock,hb,r⟩,h2⟩:=h;exact⟨D,⟨es,clock,(hk.block b (lt_of_block hb) hT).trans hb,r⟩,h2⟩
theorem BoolMap.below {w':World} (h:BoolMap P k e w b n S) (hb:Below w.heap.size w w'):BoolMap P k e w' b n S:=h.keeps (Keeps.of_below hb (fun _=>False)) id
theorem BoolMap.imp {S':Value->Prop} (h:BoolMap P k e w b n S) (hS:∀ x,S x ↔ S' x):BoolMap P k e w b n S':=by
 obtain ⟨D,h1,h2⟩:=h;exact⟨D,h1,fun key kl hk=>by obtain ⟨c,a,r⟩:=h2 key kl hk;exact⟨c,a,r.trans (hS key)⟩⟩
theorem BoolMap.look (h:BoolMap P k e w b n S) (K:Keyed P k) (ht:P.underlying t=some (.map k e)) (he:P.underlying e=some .bool) (hz:∀ w,(zeroValue e).run P w=.ok (.bool false) w) {key:Value} {kl:Lit} (hkey:keyOf P k key=some kl) :
  ∃ c,(Instr.lookup t (.map (some b)) key false).run P w=.ok (.bool c) w/\(c=true ↔ S key):=by
 obtain ⟨D,h1,h2⟩:=h;obtain ⟨v,ps,hrun,hv⟩:=h1.lookup K ht (hz w) (plainElem_bool he false) hkey;obtain ⟨c,hc,hS⟩:=h2 key kl hkey;obtain ⟨c',rfl,hc'⟩:=plainElem_bool_inv he hv;rw [hc] at hc';simp at hc';exact⟨c',hrun,by rw [← hc'.1];exact hS⟩
theorem BoolMap.store (h:BoolMap P k e w b n S) (K:Keyed P k) (ht:P.underlying t=some (.map k e)) (he:P.underlying e=some .bool) (hn:n < maxLen) {key:Value} {kl:Lit} (hkey:keyOf P k key=some kl) :
  ∃ w',(Instr.mapUpdate t (.map (some b)) key (.bool true)).run P w=.ok () w'/\BoolMap P k e w' b (n+1) (fun x=>x=key\/S x)/\w.grownBy w' (some b):=by
 obtain ⟨D,h1,h2⟩:=h;obtain ⟨w',hrun,h3,h4⟩:=h1.update K ht hn hkey (plainElem_bool he true);refine⟨w',hrun,⟨_,h3,fun x xl hx=>?_⟩,h4⟩
 by_cases hq:xl=kl
 ·subst hq;have hxk:x=key:=K.inj hx hkey;exact⟨true,atKey_put_same h1.isMap (K.key hkey) _ _,by simp [hxk]⟩
 ·obtain ⟨c,hc,hS⟩:=h2 x xl hx;refine⟨c,(atKey_put_other hq _ _).trans hc,hS.trans ⟨.inr,fun h=>h.elim (fun e=>?_) id⟩⟩;subst e;rw [hx] at hkey;exact absurd (Option.some.inj hkey) hq
end
theorem zero_bool (w:World):(zeroValue 4).run Tryz.prog w=.ok (.bool false) w:=by kernel_rfl
theorem string_key:Keyed Tryz.prog 9:=string_keyed Tryz.underlying9
theorem keyOf_str {s:ByteArray} (hs:(s.size:Int)<=140737488351232):keyOf Tryz.prog 9 (.string s)=some (.string s.data.toList):=WideMaps.keyOf_string_mk Tryz.underlying9 (by unfold maxLen;omega)
end
section
open Go.RowKit Go.Maps
def heldR (v:Value):Option (DataW Value × List MemPlace):=some (.held v,[])
def KeyMap {κ:Type} (kt:TypeId) (key:κ->Value) (w:World) (b n:Nat) (F:κ->Option Value):Prop :=
 ∃ D:DataW Value,w.ownsMap Tryz.prog kt heldR b n D/\∀ a kl,keyOf Tryz.prog kt (key a)=some kl->Maps.has D kl=(F a).isSome/\∀ z,D.atKey kl (.held z)=.held ((F a).getD z)
section
variable {κ:Type} {kt e t:TypeId} {key:κ->Value} {w w':World} {b n:Nat} {F:κ->Option Value} {a:κ}
theorem KeyMap.made (w:World):KeyMap kt key (w.alloc (.map #[] 0)) w.heap.size 0 (fun _=>none):=⟨.map [],World.ownsMap_made w _ _ _,fun _ _ _=>⟨rfl,fun _=>rfl⟩⟩
theorem KeyMap.keeps {T:Nat->Prop} (h:KeyMap kt key w b n F) (hk:Keeps T w w') (hT:¬ T b):KeyMap kt key w' b n F:=by
 obtain ⟨D,⟨es,clock,hb,r⟩,h2⟩:=h;exact⟨D,⟨es,clock,(hk.block b (lt_of_block hb) hT).trans hb,r⟩,h2⟩
theorem KeyMap.below (h:KeyMap kt key w b n F) (hb:Below w.heap.size w w'):KeyMap kt key w' b n F:=h.keeps (Keeps.of_below hb (fun _=>False)) id
theorem KeyMap.lt (h:KeyMap kt key w b n F):b < w.heap.size:=by obtain ⟨D,h1,_⟩:=h;exact h1.lt
theorem KeyMap.kept {row:Option Nat} (h:KeyMap kt key w b n F) (hg:w.grownBy w' row) (hne:some b≠row):KeyMap kt key w' b n F:=by
 obtain ⟨D,h1,h2⟩:=h;exact⟨D,h1.kept hg hne,h2⟩
theorem KeyMap.look (h:KeyMap kt key w b n F) (K:Keyed Tryz.prog kt) (ht:Tryz.prog.underlying t=some (.map kt e)) {z:Value} (hz:(zeroValue e).run Tryz.prog w=.ok z w) {kl:Lit} (hkl:keyOf Tryz.prog kt (key a)=some kl) :
  (Instr.lookup t (.map (some b)) (key a) true).run Tryz.prog w=.ok (.tuple #[(F a).getD z,.bool (F a).isSome]) w:=by
 obtain ⟨D,h1,h3⟩:=h;obtain ⟨q1,q2⟩:=h3 a kl hkl;obtain ⟨v,ps,hrun,hv⟩:=h1.look_ok K ht hz (show heldR z=some (.held z,[]) from rfl) hkl;rw [q2 z] at hv;unfold heldR at hv;simp at hv;rw [q1,hv.1] at hrun;exact hrun
theorem KeyMap.get (h:KeyMap kt key w b n F) (K:Keyed Tryz.prog kt) (ht:Tryz.prog.underlying t=some (.map kt e)) {z:Value} (hz:(zeroValue e).run Tryz.prog w=.ok z w) {kl:Lit} (hkl:keyOf Tryz.prog kt (key a)=some kl) :
  (Instr.lookup t (.map (some b)) (key a) false).run Tryz.prog w=.ok ((F a).getD z) w:=by
 obtain ⟨D,h1,h3⟩:=h;obtain ⟨q1,q2⟩:=h3 a kl hkl;obtain ⟨v,ps,hrun,hv⟩:=h1.lookup K ht hz (show heldR z=some (.held z,[]) from rfl) hkl;rw [q2 z] at hv;unfold heldR at hv;simp at hv;rw [hv.1] at hrun;exact hrun
theorem KeyMap.store [DecidableEq κ] (h:KeyMap kt key w b n F) (K:Keyed Tryz.prog kt) (inj:∀ x y,key x=key y->x=y) (ht:Tryz.prog.underlying t=some (.map kt e)) (hn:n < maxLen) {kl:Lit} (hkl:keyOf Tryz.prog kt (key a)=some kl) (v:Value) :
  ∃ w',(Instr.mapUpdate t (.map (some b)) (key a) v).run Tryz.prog w=.ok () w'/\KeyMap kt key w' b (n+1) (fun x=>if x=a then some v else F x)/\w.grownBy w' (some b):=by
 obtain ⟨D,h1,h3⟩:=h;obtain ⟨w',hrun,q1,q2⟩:=h1.update K ht hn hkl (show heldR v=some (.held v,[]) from rfl);refine⟨w',hrun,⟨_,q1,fun x xl hx=>?_⟩,q2⟩
 by_cases hq:xl=kl
 ·subst hq;have hxa:x=a:=inj _ _ (K.inj hx hkl);simp only [if_pos hxa];exact⟨has_put_same h1.isMap (K.key hkl) _,fun z=>atKey_put_same h1.isMap (K.key hkl) _ _⟩
 ·have hne:x≠a:=fun e=>by subst e;rw [hx] at hkl;exact hq (Option.some.inj hkl)
  simp only [if_neg hne];obtain ⟨r1,r2⟩:=h3 x xl hx;exact⟨(has_put_other hq _).trans r1,fun z=>(atKey_put_other hq _ _).trans (r2 z)⟩
end
end
namespace Dr
open Go Go.RowKit
def mkV (a b c d e:Nat):Value:=.agg #[.int .i64 a,.int .i64 b,.int .i64 c,.int .i64 d,.int .i64 e]
theorem mark_ret {w:World} {b:Nat} {a0 a1 a2 a3 a4:Value} {act:Act} {R:Ending->World->Prop} (hb:w.heap[b]?=some (.cells #[a0,a1,a2,a3,a4] 178 (0,0))) (h2:act.tmps[2]?=some (.pointer (some ⟨b,0,none⟩))) (hd:act.defers=[]) (hR:R (.returned (.agg #[a0,a1,a2,a3,a4])) w) :
  bodyPost Tryz.prog Tryz.f122 R .ret act w:=by
 obtain ⟨y0,y1,y2,y3,y4,_⟩:=Bk.c5 hb;refine bodyPost_ret (v:=.agg #[a0,a1,a2,a3,a4]) ?_ hd hR;simp [results,Tryz.results122,go_sem,y0,y1,y2,y3,y4,h2]
def set5 (w:World) (b:Nat) (v0 v1 v2 v3 v4:Value):World:=((((w.setCell ⟨b,0,none⟩ v0).setCell ⟨b,1,none⟩ v1).setCell ⟨b,2,none⟩ v2).setCell ⟨b,3,none⟩ v3).setCell ⟨b,4,none⟩ v4
theorem set5_at {w:World} {b:Nat} {a0 a1 a2 a3 a4:Value} {t:TypeId} (h:w.heap[b]?=some (.cells #[a0,a1,a2,a3,a4] t (0,0))) (v0 v1 v2 v3 v4:Value):(set5 w b v0 v1 v2 v3 v4).heap[b]?=some (.cells #[v0,v1,v2,v3,v4] t (0,0)):=by
 simp [set5,World.setCell,Array.getElem?_modify,h]
theorem set5_other {w:World} {b c:Nat} (h:c≠b) (v0 v1 v2 v3 v4:Value):(set5 w b v0 v1 v2 v3 v4).heap[c]?=w.heap[c]?:=by
 unfold set5;rw [Below.heap_setCell _ ⟨b,4,none⟩ v4 c h,Below.heap_setCell _ ⟨b,3,none⟩ v3 c h,Below.heap_setCell _ ⟨b,2,none⟩ v2 c h,Below.heap_setCell _ ⟨b,1,none⟩ v1 c h,Below.heap_setCell _ ⟨b,0,none⟩ v0 c h]
theorem set5_below {B b:Nat} {w0 w:World} (h:Below B w0 w) (hb:B<=b) (v0 v1 v2 v3 v4:Value):Below B w0 (set5 w b v0 v1 v2 v3 v4) :=
 ((((h.setCell (p:=⟨b,0,none⟩) hb v0).setCell (p:=⟨b,1,none⟩) hb v1).setCell (p:=⟨b,2,none⟩) hb v2).setCell (p:=⟨b,3,none⟩) hb v3).setCell (p:=⟨b,4,none⟩) hb v4
theorem mark_any (w:World) (b:Nat) (A0 A1 A2 A3 A4:Option Addr) (n0 n1 n2 n3 n4 c0 c1 c2 c3 c4:Nat) (h0:w.cell? ⟨b,0,none⟩=some (.slice A0 n0 c0)) (h1:w.cell? ⟨b,1,none⟩=some (.slice A1 n1 c1)) (h2:w.cell? ⟨b,2,none⟩=some (.slice A2 n2 c2)) (h3:w.cell? ⟨b,3,none⟩=some (.slice A3 n3 c3)) (h4:w.cell? ⟨b,4,none⟩=some (.slice A4 n4 c4)) (hb:b < w.heap.size) :
  Calls Tryz.prog 122 #[.pointer (some ⟨b,0,none⟩)] w fun e w'=>e=.returned (mkV n0 n1 n2 n3 n4)/\Below w.heap.size w w':=by
 have B1:=kp ((brq w).alloc nlq (.cells #[.int .i64 0,.int .i64 0,.int .i64 0,.int .i64 0,.int .i64 0] 178));have X1:=kp (Bk.new w (.cells #[.int .i64 0,.int .i64 0,.int .i64 0,.int .i64 0,.int .i64 0] 178));obtain ⟨k,_⟩:=bcell B1.out;have g0:=(k b 0 hb).trans h0;have g1:=(k b 1 hb).trans h1;have g2:=(k b 2 hb).trans h2;have g3:=(k b 3 hb).trans h3;have g4:=(k b 4 hb).trans h4;clear h0 h1 h2 h3 h4 k
 go_enter Tryz.func122,Tryz.ntmps122
 go_upto_region 1 with fail
 generalize w.alloc (.cells #[.int .i64 0,.int .i64 0,.int .i64 0,.int .i64 0,.int .i64 0] 178)=w1 at *;obtain ⟨x0,x1,x2,x3,x4,xf⟩:=Bk.c5 X1.out;refine wp_region_hd (S:=fun V=>V=w1.drew) (by kernel_rfl) 30 (rfl) (fun hHeld=>?_);refine hl1 [0,1,2,3,4,5,6,7,8,9,10,11,12,13,14,15,16,17,18,19,20,21,22,23,24,25,26,27,28,29] ?_;iterate 30 (refine hwt (v:=?_) ?_ ?_;rotate_left;(focus (intro w hSw;(subst hSw;go_simp;try with_reducible rfl)));try simp only [pt])
 refine hl0 ?_;refine wpHd_last (i:=30) (o:=Oper.mk _ _ _ _ _ _) (by kernel_rfl) rfl (by kernel_rfl) (fun K hK=>?_);go_simp;refine hK.out _ _ ?_;clear hK K;try simp only [pt]
 refine wpHd_done (by kernel_rfl) ?_ _;go_wp2_with fail
 have X2:=set5_at (show w1.drew.heap[w.heap.size]?=_ from X1.out) (.int .i64 n0) (.int .i64 n1) (.int .i64 n2) (.int .i64 n3) (.int .i64 n4);exact mark_ret (w:=set5 w1.drew w.heap.size (.int .i64 n0) (.int .i64 n1) (.int .i64 n2) (.int .i64 n3) (.int .i64 n4)) X2 rfl rfl ⟨rfl,set5_below B1.out.drew nlq _ _ _ _ _⟩
theorem rises_yes (w:World) (a0 a1 a2 a3 a4 b0 b1 b2 b3 b4:Nat) (h0:(a0:Int)<=b0) (h1:(a1:Int)<=b1) (h2:(a2:Int)<=b2) (h3:(a3:Int)<=b3) (h4:(a4:Int)<=b4) :
  Calls Tryz.prog 123 #[mkV a0 a1 a2 a3 a4,mkV b0 b1 b2 b3 b4] w fun e w'=>e=.returned (.bool true)/\Below w.heap.size w w':=by
 have B1:=kp (((brq w).alloc nlq (.cells #[.int .i64 a0,.int .i64 a1,.int .i64 a2,.int .i64 a3,.int .i64 a4] 178)).alloc (by simp) (.cells #[.int .i64 b0,.int .i64 b1,.int .i64 b2,.int .i64 b3,.int .i64 b4] 178));have X1:=kp (Bk.keep (Bk.new w (.cells #[.int .i64 a0,.int .i64 a1,.int .i64 a2,.int .i64 a3,.int .i64 a4] 178)) (.cells #[.int .i64 b0,.int .i64 b1,.int .i64 b2,.int .i64 b3,.int .i64 b4] 178));have Y1:=kp (Bk.new (w.alloc (.cells #[.int .i64 a0,.int .i64 a1,.int .i64 a2,.int .i64 a3,.int .i64 a4] 178)) (.cells #[.int .i64 b0,.int .i64 b1,.int .i64 b2,.int .i64 b3,.int .i64 b4] 178));rw [show(w.alloc (.cells #[.int .i64 a0,.int .i64 a1,.int .i64 a2,.int .i64 a3,.int .i64 a4] 178)).heap.size=w.heap.size+1 by simp] at Y1;unfold mkV
 go_enter Tryz.func123,Tryz.ntmps123
 go_upto_region 1 with fail
 generalize (w.alloc (.cells #[.int .i64 a0,.int .i64 a1,.int .i64 a2,.int .i64 a3,.int .i64 a4] 178)).alloc (.cells #[.int .i64 b0,.int .i64 b1,.int .i64 b2,.int .i64 b3,.int .i64 b4] 178)=w1 at *;obtain ⟨x0,x1,x2,x3,x4,xf⟩:=Bk.c5 X1.out;obtain ⟨y0,y1,y2,y3,y4,yf⟩:=Bk.c5 Y1.out;go_wp2_with fail
 go_ret;exact⟨rfl,B1.out⟩
def valM (_:Unit):List Value:=[.int .i64 0,.int .i64 0,.int .i64 0,.int .i64 2,.int .i64 0]
theorem valM_len (x:Unit):(valM x).length=5:=rfl
theorem valM_one (x:Unit):∀ u ∈ valM x,u.oneCell'=true:=fun u hu=>by
 unfold valM at hu;simp only [List.mem_cons,List.mem_nil_iff,or_false] at hu;rcases hu with rfl | rfl | rfl | rfl | rfl <;> rfl
theorem tyM:PTy 98 178 5 40:=⟨Tryz.underlying98,⟨.agg #[.int .i64 0,.int .i64 0,.int .i64 0,.int .i64 0,.int .i64 0],by kernel_rfl,rfl⟩,by decide,by decide⟩
theorem run_copy_wide {P:Program} (w:World) (dT sT ty elem:TypeId) (k b o dLen dCap:Nat) (a:Addr) (sLen sCap:Nat) (cs:List Value)
  (hu:P.underlying dT=some (.slice elem)) (hs:(P.info? elem).map (·.size)=some k) (hn:cs.length=Nat.min sLen dLen * k)
  (hsrc:∀ j v,cs[j]?=some v->w.cell? (a.add j)=some v) (hc:∀ j,j < cs.length->(w.cell? ⟨b,o+j,none⟩).isSome=true) (hf:∀ j,j < cs.length->w.frozen? ⟨b,o+j,none⟩=false) (h1:∀ v ∈ cs,v.oneCell'=true) :
  (Builtin.copy_ #[dT,sT] ty #[.slice (some ⟨b,o,none⟩) dLen dCap,.slice (some a) sLen sCap]).run P w=.ok (goInt (Nat.min sLen dLen)) (w.setCells b o cs):=by
 have hl:=run_loadCells_list (P:=P) w a cs hsrc;have hst:=run_storeCells_cells (P:=P) b o cs 0 w (by simpa using hc) (by simpa using hf) h1
 cases hq:P.info? elem with
 | none=>simp [hq] at hs
 | some i =>
  have hi:i.size=k:=by simpa [hq] using hs
  simp [Builtin.copy_,run_underlying hu,Builtin.lenOf,Builtin.firstCells,sizeOf,typeInfo,hq,hi,← hn,hl,hst]
theorem flatV_one {α:Type} {val:α->List Value} (h1:∀ x,∀ u ∈ val x,u.oneCell'=true):∀ (xs:List α),∀ u ∈ flatV val xs,u.oneCell'=true
 | [],u,hu=>by cases hu
 | x :: r,u,hu=>by
  rcases List.mem_append.1 hu with hu | hu
  ·exact h1 x u hu
  ·exact flatV_one h1 r u hu
theorem clone_marks {w:World} {base:Nat} {A:Option Addr} {c:Nat} {us:List Unit} (h:PRow valM 178 5 base w (.slice A us.length c) us) (hl:us.length<=1000) :
  Calls Tryz.prog 121 #[.slice A us.length c] w fun e w'=>∃ A' c',e=.returned (.slice A' us.length c')/\PRow valM 178 5 w.heap.size w' (.slice A' us.length c') us/\Below w.heap.size w w':=by
 have HR:=kp h;have hq0:∀ W,(binOp .eql 98 (.slice none 0 0) (.slice none 0 0)).run Tryz.prog W=.ok (.bool true) W:=fun W=>by kernel_rfl
 have hq1:∀ (a:Addr) (n c:Nat) W,(binOp .eql 98 (.slice (some a) n c) (.slice none 0 0)).run Tryz.prog W=.ok (.bool false) W:=fun a n c W=>by kernel_rfl
 rcases h.own.2 with⟨h1,h2⟩ | ⟨g,cap,cur,h1,hg,hat,h2,h3,h4,h5⟩
 ·obtain rfl:us=[]:=List.length_eq_zero_iff.1 h2;simp only [Value.slice.injEq] at h1;obtain ⟨rfl,_,rfl⟩:=h1
  go_enter Tryz.func121,Tryz.ntmps121
  go_wp2_with fail
  go_ret;exact⟨none,0,rfl,PRow.nil _ _ _ _ _,Below.refl _ _⟩
 ·simp only [Value.slice.injEq] at h1;obtain ⟨rfl,_,rfl⟩:=h1;have P0:=kp (show(w.alloc (.cells #[] 178)).ownsRow w.heap.size 178 5 (.slice (some ⟨w.heap.size,0,none⟩) 0 0) 0 [] from⟨by simp,.inr ⟨w.heap.size,0,#[],rfl,nlq,Bk.new w _,nlq,by unfold maxLen;omega,rfl,rfl⟩⟩)
  have C0:=kp (show Cells (w.alloc (.cells #[] 178)) (some ⟨g,0,none⟩) (flatV valM us) from .inr ⟨g,0,rfl,by have:=lt_of_block hat;simp;omega,fun j u hu=>by
   rw [Nat.zero_add,cell_of_row _ g j cur 178 (0,0) (Bk.keep hat _)];rw [← h5,List.getElem?_take] at hu
   split at hu
   ·simpa using hu
   ·cases hu⟩)
  have B0:=kp ((brq w).alloc nlq (.cells #[] 178));have hfl:=flatV_len valM_len us;have h1c:=flatV_one valM_one us;obtain ⟨z0,hi,hz⟩:=tyM.info;obtain ⟨i0,hi0,e0,e1,e2⟩:=info_parts hi;have hz0:(w.alloc (.cells #[] 178)).heap.size=w.heap.size+1:=by simp
  clear h2 h3 h4 h5 hat h;obtain ⟨n,hn⟩:∃ n,us.length=n:=⟨_,rfl⟩;rw [hn] at hfl hl HR ⊢;have HN:=kp hn;clear hn
  go_enter Tryz.func121,Tryz.ntmps121
  go_wp2_with (at_builtin;refine wpList_append_at rfl (.tmp 5) (.tmp 6) _ rfl w.heap.size 178 i0 z0 5 40 Tryz.underlying98 hi0 e0 e1 e2 hz (by decide) (.slice (some ⟨w.heap.size,0,none⟩) 0 0) 0 [] rfl P0.out (some ⟨g,0,none⟩) n c (flatV valM us) rfl hfl C0.out h1c ?c1 ?c2 ?c3 ?_)
  case c1=>unfold maxLen;omega
  case c2=>omega
  case c3=>omega
  intro v' w9 hown hgr _;have hp:PRow valM 178 5 w.heap.size w9 v' us:=⟨by rw [HN.out];first | exact hown | (rw [Nat.zero_add] at hown;exact hown)⟩;obtain ⟨A9,c9,hv,_,_⟩:=hp.shape;have B9:=kp (B0.out.grown hgr (by omega) (fun j e=>by cases e;exact nlq));rw [HN.out] at hv;subst hv;have HP:=kp hp;clear hp hown hgr;go_wp2_with fail
  go_ret;exact⟨A9,c9,rfl,HP.out,B9.out⟩
theorem setCells5 (w:World) (b:Nat) (v0 v1 v2 v3 v4:Value):w.setCells b 0 [v0,v1,v2,v3,v4]=set5 w b v0 v1 v2 v3 v4:=by simp [World.setCells,set5]
theorem repeat_one {w:World} {g:Nat} (h:w.heap[g]?=some (.cells (valM ()).toArray 178 (0,0))) (c:Nat) :
  Calls Tryz.prog 138 #[.slice (some ⟨g,0,none⟩) 1 c,.int .i64 1] w fun e w'=>∃ b,e=.returned (.slice (some ⟨b,0,none⟩) 1 1)/\w.heap.size<=b/\w'.heap[b]?=some (.cells (valM ()).toArray 178 (0,0))/\Below w.heap.size w w':=by
 have HMu:=kp (fun W=>(Tryz.bits_Mul 1 1 (by decide) (by decide) W).mono (R':=fun e w'=>e=.returned (.tuple #[.int .u64 0,.int .u64 1])/\w'=W) (fun e w' h=>h));have hmk:∀ W,(Instr.makeSlice 98 (.int .i64 1) (.int .i64 1)).run Tryz.prog W=.ok (.slice (some ⟨W.heap.size,0,none⟩) 1 1) (W.alloc (.cells #[.int .i64 0,.int .i64 0,.int .i64 0,.int .i64 0,.int .i64 0] 178)):=fun W=>by kernel_rfl
 have X1:=kp (Bk.new w (.cells #[.int .i64 0,.int .i64 0,.int .i64 0,.int .i64 0,.int .i64 0] 178));have Y1:=kp (Bk.keep h (.cells #[.int .i64 0,.int .i64 0,.int .i64 0,.int .i64 0,.int .i64 0] 178));have B1:=kp ((brq w).alloc nlq (.cells #[.int .i64 0,.int .i64 0,.int .i64 0,.int .i64 0,.int .i64 0] 178))
 have hcp:(Builtin.copy_ #[98,98] 3 #[.slice (some ⟨w.heap.size,0,none⟩) 1 1,.slice (some ⟨g,0,none⟩) 1 c]).run Tryz.prog (w.alloc (.cells #[.int .i64 0,.int .i64 0,.int .i64 0,.int .i64 0,.int .i64 0] 178))=.ok (.int .i64 1) (set5 (w.alloc (.cells #[.int .i64 0,.int .i64 0,.int .i64 0,.int .i64 0,.int .i64 0] 178)) w.heap.size (.int .i64 0) (.int .i64 0) (.int .i64 0) (.int .i64 2) (.int .i64 0)):=by
  rw [← setCells5];obtain ⟨x0,x1,x2,x3,x4,xf⟩:=Bk.c5 X1.out;refine run_copy_wide _ 98 98 3 178 5 _ 0 1 1 ⟨g,0,none⟩ 1 c [.int .i64 0,.int .i64 0,.int .i64 0,.int .i64 2,.int .i64 0] Tryz.underlying98 (by kernel_rfl) rfl (fun j v hv=>?_) (fun j hj=>?_) (fun j _=>?_) (valM_one ())
  ·have:((⟨g,0,none⟩:Addr).add j)=⟨g,j,none⟩:=by unfold Addr.add;split <;> simp_all
   rw [this,cell_of_cells Y1.out,List.getElem?_toArray];exact hv
  ·have:j=0\/j=1\/j=2\/j=3\/j=4:=by simp at hj;omega
   rcases this with rfl | rfl | rfl | rfl | rfl
   ·rw [x0];rfl
   ·rw [x1];rfl
   ·rw [x2];rfl
   ·rw [x3];rfl
   ·rw [x4];rfl
  ·rw [Nat.zero_add];exact xf j
 have B2:=kp (set5_below B1.out nlq (.int .i64 0) (.int .i64 0) (.int .i64 0) (.int .i64 2) (.int .i64 0));have X2:=kp (set5_at X1.out (.int .i64 0) (.int .i64 0) (.int .i64 0) (.int .i64 2) (.int .i64 0));clear h
 go_enter Tryz.func138,Tryz.ntmps138
 go_wp2_with (go_at_call 195;refine(HMu.out _).mono ?_;rintro e w2 ⟨rfl,rfl⟩)
 go_loopw [8] (fun i wr=>i=.int .i64 1/\wr.heap[w2.heap.size]?=some (.cells (valM ()).toArray 178 (0,0))/\Below w2.heap.size w2 wr) (fun _ _=>0)
 case atStart=>exact⟨rfl,X2.out,B2.out⟩
 case round =>
  obtain ⟨rfl,hx,hb⟩:=hrel;have HX:=kp hx;have HB:=kp hb;clear hx hb;go_wp2_with fail
  go_ret;exact⟨_,rfl,nlq,HX.out,HB.out⟩
end Dr
section
open Go.RowKit
theorem setCells_at {t:TypeId} {z:Nat × Nat} {b:Nat}:∀ (vs:List Value) (o:Nat) (w:World) (cs:Array Value),w.heap[b]?=some (.cells cs t z)->o+vs.length=cs.size->(w.setCells b o vs).heap[b]?=some (.cells (cs.toList.take o ++ vs).toArray t z)
 | [],o,w,cs,h,hz=>by
  have e:(cs.toList.take o ++ ([]:List Value)).toArray=cs:=by
   rw [List.append_nil,List.take_of_length_le (by simp at hz ⊢;omega),Array.toArray_toList]
  rw [e];exact h
 | v :: vs,o,w,cs,h,hz=>by
  have h1:=Bk.set_at h o v;have hz1:(cs.setIfInBounds o v).size=cs.size:=by simp
  have h2:=setCells_at vs (o+1) (w.setCell ⟨b,o,none⟩ v) (cs.setIfInBounds o v) h1 (by rw [hz1];simp at hz;omega);have ho:o < cs.toList.length:=by simp at hz ⊢;omega
  have e:(cs.setIfInBounds o v).toList.take (o+1) ++ vs=cs.toList.take o ++ v :: vs:=by
   rw [Array.toList_setIfInBounds,List.take_add_one,List.take_set_of_le nlq,List.getElem?_set_self ho];simp
  rw [e] at h2;exact h2
theorem setCells_below {B b:Nat} {w0:World} (hb:B<=b):∀ (vs:List Value) (o:Nat) (w:World),Below B w0 w->Below B w0 (w.setCells b o vs)
 | [],_,_,h=>h
 | v :: vs,o,_,h=>setCells_below hb vs (o+1) _ (h.setCell (p:=⟨b,o,none⟩) hb v)
theorem setCells_other {b c:Nat} (hne:c≠b):∀ (vs:List Value) (o:Nat) (w:World),(w.setCells b o vs).heap[c]?=w.heap[c]?
 | [],_,_=>rfl
 | v :: vs,o,w=>(setCells_other hne vs (o+1) _).trans (Below.heap_setCell w ⟨b,o,none⟩ v c hne)
theorem setCells_all {t:TypeId} {z:Nat × Nat} {b:Nat} {w:World} {cs:Array Value} (h:w.heap[b]?=some (.cells cs t z)) (vs:List Value) (hl:vs.length=cs.size):(w.setCells b 0 vs).heap[b]?=some (.cells vs.toArray t z):=by
 have:=setCells_at vs 0 w cs h (by omega)
 simpa using this
theorem step_store_row {P:Program} {ops:Array Oper} {o:Oper} {a:Act} {w:World} {K:Act->World->Prop} {Q:Exit->Act->World->Prop} {E:Prop} (hgd:o.guard=none) (ty:TypeId) (x y:Operand) (ho:o.op=.store ty x y)
  (g:Nat) (cells:Array Value) (hx:a.eval x=.pointer (some ⟨g,0,none⟩)) (hy:a.eval y=.agg cells) (t:TypeId) (old:Array Value) (hg:w.heap[g]?=some (.cells old t (0,0))) (hi:(P.info? ty).map (·.size)=some cells.size)
  (hold:old.size=cells.size) (h1:cells.all (·.oneCell')=true) (h:K (a.put o.dst undef) (w.setRow g cells)):if Region.wanted o (yielded ops a.tmps)=true then Oper.wp P o a w K Q else E:=by
 simp only [Region.wanted,hgd,if_true];exact wp_store_row ty x y ho g cells hx hy t old hg hi hold h1 h
namespace Bk
theorem row {w:World} {g:Nat} {old:Array Value} {t:TypeId} (h:w.heap[g]?=some (.cells old t (0,0))) (cells:Array Value):(w.setRow g cells).heap[g]?=some (.cells cells t (0,0)):=setRow_heap w g _ _ t _ h
theorem row_other {w:World} {g b:Nat} (hne:b≠g) (cells:Array Value):(w.setRow g cells).heap[b]?=w.heap[b]?:=setRow_other w g b cells hne
theorem c15 {w:World} {b:Nat} {a0 a1 a2 a3 a4 a5 a6 a7 a8 a9 a10 a11 a12 a13 a14:Value} {t:TypeId} (h:w.heap[b]?=some (.cells #[a0,a1,a2,a3,a4,a5,a6,a7,a8,a9,a10,a11,a12,a13,a14] t (0,0))) :
  (w.cell? ⟨b,0,none⟩=some a0/\w.cell? ⟨b,1,none⟩=some a1/\w.cell? ⟨b,2,none⟩=some a2/\w.cell? ⟨b,3,none⟩=some a3/\w.cell? ⟨b,4,none⟩=some a4/\w.cell? ⟨b,5,none⟩=some a5/\w.cell? ⟨b,6,none⟩=some a6/\w.cell? ⟨b,7,none⟩=some a7) /\
  (w.cell? ⟨b,8,none⟩=some a8/\w.cell? ⟨b,9,none⟩=some a9/\w.cell? ⟨b,10,none⟩=some a10/\w.cell? ⟨b,11,none⟩=some a11/\w.cell? ⟨b,12,none⟩=some a12/\w.cell? ⟨b,13,none⟩=some a13/\w.cell? ⟨b,14,none⟩=some a14)/\∀ j,w.frozen? ⟨b,j,none⟩=false:=by
 refine⟨⟨?_,?_,?_,?_,?_,?_,?_,?_⟩,⟨?_,?_,?_,?_,?_,?_,?_⟩,fun j=>frozen_of_cells h j⟩;all_goals rw [cell_of_cells h];rfl
theorem c18 {w:World} {b:Nat} {a0 a1 a2 a3 a4 a5 a6 a7 a8 a9 a10 a11 a12 a13 a14 a15 a16 a17:Value} {t:TypeId} (h:w.heap[b]?=some (.cells #[a0,a1,a2,a3,a4,a5,a6,a7,a8,a9,a10,a11,a12,a13,a14,a15,a16,a17] t (0,0))) :
  (w.cell? ⟨b,0,none⟩=some a0/\w.cell? ⟨b,1,none⟩=some a1/\w.cell? ⟨b,2,none⟩=some a2/\w.cell? ⟨b,3,none⟩=some a3/\w.cell? ⟨b,4,none⟩=some a4/\w.cell? ⟨b,5,none⟩=some a5/\w.cell? ⟨b,6,none⟩=some a6/\w.cell? ⟨b,7,none⟩=some a7) /\
  (w.cell? ⟨b,8,none⟩=some a8/\w.cell? ⟨b,9,none⟩=some a9/\w.cell? ⟨b,10,none⟩=some a10/\w.cell? ⟨b,11,none⟩=some a11/\w.cell? ⟨b,12,none⟩=some a12/\w.cell? ⟨b,13,none⟩=some a13/\w.cell? ⟨b,14,none⟩=some a14) /\
  (w.cell? ⟨b,15,none⟩=some a15/\w.cell? ⟨b,16,none⟩=some a16/\w.cell? ⟨b,17,none⟩=some a17)/\∀ j,w.frozen? ⟨b,j,none⟩=false:=by
 refine⟨⟨?_,?_,?_,?_,?_,?_,?_,?_⟩,⟨?_,?_,?_,?_,?_,?_,?_⟩,⟨?_,?_,?_⟩,fun j=>frozen_of_cells h j⟩;all_goals rw [cell_of_cells h];rfl
end Bk
end
section
open Go.RowKit Go.Maps
theorem many_types:∃ m,Tryz.prog.types.size=m+2:=⟨Tryz.prog.types.size - 2,by kernel_rfl⟩
theorem name_wide:Tryz.prog.keyType 325=true:=by kernel_rfl
theorem cName:Tryz.prog.cellsOf 325=2:=by kernel_rfl
theorem name_key:Keyed Tryz.prog 325:=Keyed.of_law (deep_law_gate laidOut (of_decide_eq_true (by kernel_rfl)) (of_decide_eq_true (by kernel_rfl)) name_wide (by kernel_rfl))
theorem keyOf_name {s:ByteArray} (hs:(s.size:Int)<=140737488351232) (b:Bool):∃ kl,keyOf Tryz.prog 325 (.agg #[.string s,.bool b])=some kl:=by
 obtain ⟨m,hm⟩:=many_types;have hs2:s.size<=maxLen:=by unfold maxLen;omega
 have c1:Tryz.prog.cellsOf 9=1:=by kernel_rfl
 have c2:Tryz.prog.cellsOf 4=1:=by kernel_rfl
 unfold keyOf;simp only [Tryz.underlying325];rw [if_pos (by simp [name_wide,Value.formed,Tryz.underlying325,cName]),hm];simp [Program.keyLits,Tryz.underlying325,Tryz.underlying9,Tryz.underlying4,cName,c1,c2,Value.cells,hs2]
theorem wf_i64 {n:Int} (h:I64 n):(Lit.int .i64 n).wf=true:=WalkArith.wf_i64 h
def KeyMapN {κ:Type} (kt:TypeId) (key:κ->Value) (w:World) (b n m:Nat) (F:κ->Option Value):Prop :=
 ∃ D:DataW Value,w.ownsMap Tryz.prog kt heldR b n D/\Maps.size D=m/\∀ a kl,keyOf Tryz.prog kt (key a)=some kl->Maps.has D kl=(F a).isSome/\∀ z,D.atKey kl (.held z)=.held ((F a).getD z)
section
variable {κ:Type} {kt e t:TypeId} {key:κ->Value} {w w':World} {b n m:Nat} {F:κ->Option Value} {a:κ}
theorem KeyMapN.made (w:World):KeyMapN kt key (w.alloc (.map #[] 0)) w.heap.size 0 0 (fun _=>none):=⟨.map [],World.ownsMap_made w _ _ _,rfl,fun _ _ _=>⟨rfl,fun _=>rfl⟩⟩
theorem KeyMapN.keeps {T:Nat->Prop} (h:KeyMapN kt key w b n m F) (hk:Keeps T w w') (hT:¬ T b):KeyMapN kt key w' b n m F:=by
 obtain ⟨D,⟨es,clock,hb,r⟩,h2⟩:=h;exact⟨D,⟨es,clock,(hk.block b (lt_of_block hb) hT).trans hb,r⟩,h2⟩
theorem KeyMapN.below (h:KeyMapN kt key w b n m F) (hb:Below w.heap.size w w'):KeyMapN kt key w' b n m F:=h.keeps (Keeps.of_below hb (fun _=>False)) id
theorem KeyMapN.lt (h:KeyMapN kt key w b n m F):b < w.heap.size:=by obtain ⟨D,h1,_⟩:=h;exact h1.lt
theorem KeyMapN.plain (h:KeyMapN kt key w b n m F):KeyMap kt key w b n F:=by obtain ⟨D,h1,_,h3⟩:=h;exact⟨D,h1,h3⟩
theorem KeyMapN.imp {F':κ->Option Value} {m':Nat} (h:KeyMapN kt key w b n m F) (hm:m=m') (hF:∀ a,F a=F' a):KeyMapN kt key w b n m' F':=by
 obtain ⟨D,h1,h2,h3⟩:=h;exact⟨D,h1,h2.trans hm,fun a kl hk=>by rw [← hF];exact h3 a kl hk⟩
theorem KeyMapN.len (h:KeyMapN kt key w b n m F) (ht:Tryz.prog.underlying t=some (.map kt e)) (ty:TypeId):(Builtin.len_ #[t] ty #[.map (some b)]).run Tryz.prog w=.ok (.int .i64 m) w:=by
 obtain ⟨D,h1,h2,_⟩:=h;rw [← h2];exact h1.len ht ty
theorem KeyMapN.store [DecidableEq κ] (h:KeyMapN kt key w b n m F) (K:Keyed Tryz.prog kt) (inj:∀ x y,key x=key y->x=y) (ht:Tryz.prog.underlying t=some (.map kt e)) (hn:n < maxLen) {kl:Lit} (hkl:keyOf Tryz.prog kt (key a)=some kl) (v:Value) :
  ∃ w',(Instr.mapUpdate t (.map (some b)) (key a) v).run Tryz.prog w=.ok () w'/\KeyMapN kt key w' b (n+1) (if(F a).isSome then m else m+1) (fun x=>if x=a then some v else F x)/\w.grownBy w' (some b):=by
 obtain ⟨D,h1,h2,h3⟩:=h;obtain ⟨w',hrun,q1,q2⟩:=h1.update K ht hn hkl (show heldR v=some (.held v,[]) from rfl);refine⟨w',hrun,⟨_,q1,?_,fun x xl hx=>?_⟩,q2⟩
 ·rw [size_put (h1.tidy K),(h3 a kl hkl).1,h2]
 by_cases hq:xl=kl
 ·subst hq;have hxa:x=a:=inj _ _ (K.inj hx hkl);simp only [if_pos hxa];exact⟨has_put_same h1.isMap (K.key hkl) _,fun z=>atKey_put_same h1.isMap (K.key hkl) _ _⟩
 ·have hne:x≠a:=fun e=>by subst e;rw [hx] at hkl;exact hq (Option.some.inj hkl)
  simp only [if_neg hne];obtain ⟨r1,r2⟩:=h3 x xl hx;exact⟨(has_put_other hq _).trans r1,fun z=>(atKey_put_other hq _ _).trans (r2 z)⟩
end
end
namespace Dt
open Go.RowKit Go.ChangeShapes Go.WideShapes Go.Deep
section
variable {H:Type} {enc:TypeId × Value->H}
end
end Dt
end Go.Proofs.YtmcbolkpbklfeaaGreatDoor
