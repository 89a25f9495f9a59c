import Derived.Test.YtpmdcckapddchaaGreatDoorShort
import Derived.Test.YtpmdcckapddchaaGreatDoorBase
import Derived.WalkLawsBesides
import Derived.ProofKit
import Derived.OpenShut
import Derived.Carry
import Derived.LaidMore
import Derived.MakeChecks
import Derived.Deep.DeepHandedRow
import Derived.Deep.Slices
import Derived.Deep.Fields
import Derived.Deep.QuietTactic
import Derived.OwnWalk
import Derived.Maps.OwnSet
import Derived.Maps.Views
import Derived.Maps.Keyed
import Derived.MapViews
import Derived.DeepKeys4
import Derived.Maps.AppendAt
import Derived.RegionTactic
import Derived.ArgAppend
import Derived.DeepKeys5
import Derived.WalkSmall
import Derived.Test.YtpmdcckapddchaaGreatDoorShelf
import Derived.Lib.LaidTab
import Derived.Lib.ItoaLen
import Derived.Deep.RegionHeld3
import Derived.RangeFuncNested
import Derived.RangeFuncLeaves
import Derived.OrdersIn
/- merged by wip/merge.py from: LexA LexB LexP NumPlain Frame Law Lies Sig SexpPlain SexpRead SexpOpen SigOpen SexpDepth LexR NumParse NumRParse Blk RowOk Maps KeyMap Own2 Own3 Equal Keys NumMay KeyMapN Grows NumIs Tab NumText NumCanon LexQ IRow LexRQ NumRMay NumRText More HeldW Seq HeldR -/
set_option maxRecDepth 100000
set_option maxHeartbeats 51200000
namespace Go.Proofs.YtpmdcckapddchaaGreatDoor
namespace Lx
open Go.RowKit
def bs (s:ByteArray):List UInt8:=s.data.toList
theorem bs_toList (s:ByteArray):s.toList=bs s:=ByteArray.toList_eq s
theorem bs_length (s:ByteArray):(bs s).length=s.size:=by unfold bs;simp
theorem bs_inj {s t:ByteArray}:bs s=bs t ↔ s=t:=by
 unfold bs
 constructor
 ·intro h
  cases s;cases t;congr 1;exact Array.toList_inj.1 h
 ·intro h;rw [h]
theorem bs_mem {s:ByteArray} {k:Nat} (hk:k < s.size):s[k] ∈ bs s:=by unfold bs;exact Array.mem_toList_iff.2 (Array.getElem_mem _)
theorem bs_next {s:ByteArray} {k:Nat} (hk:k < s.size):(bs s).take (k+1)=(bs s).take k ++ [s[k]]:=by
 unfold bs;rw [List.take_succ_eq_append_getElem (by simpa using hk)];rfl
theorem bs_at {s:ByteArray} {k:Nat} (hk:k < s.size):(bs s)[k]?=some s[k]:=by
 unfold bs;rw [gqe (by simpa using hk)];rfl
def whiteI (c:Int):Bool:=decide (c=32\/c=9\/c=10\/c=13)
def digitI (c:Int):Bool:=decide (48<=c/\c<=57)
def insideI (c:Int):Bool:=decide (c≠124/\c≠92/\((32<=c/\c<=126)\/c=9\/c=10\/c=13))
def signI (c:Int):Bool:=decide ((65<=c/\c<=90)\/(97<=c/\c<=122)\/(48<=c/\c<=57)\/c=126\/c=33\/c=64\/c=36\/c=37\/c=94\/c=38\/c=42\/c=95\/c=45\/c=43\/c=61\/c=60\/c=62\/c=46\/c=63\/c=47)
theorem white_any (c:Int) (w:World) :
  Calls Tryz.prog 164 #[.int .u8 c] w fun e w'=>e=.returned (.bool (whiteI c))/\w=w':=by
 go_enter Tryz.func164,Tryz.ntmps164
 go_wp2_with fail
 all_goals
  go_ret;exact⟨ret_bool (by rw [Bool.eq_iff_iff];simp [whiteI];try omega),rfl⟩
theorem digit_any (c:Int) (w:World) (h0:0<=c) (h1:c<=255) :
  Calls Tryz.prog 121 #[.int .u8 c] w fun e w'=>e=.returned (.bool (digitI c))/\w=w':=by
 by_cases h2:48<=c
 ·go_enter Tryz.func121,Tryz.ntmps121
  go_wp2_with fail
  all_goals
   go_ret;exact⟨ret_bool (by rw [Bool.eq_iff_iff];simp [digitI];try omega),rfl⟩
 ·go_enter Tryz.func121,Tryz.ntmps121
  go_wp2_with fail
  all_goals
   go_ret;exact⟨ret_bool (by rw [Bool.eq_iff_iff];simp [digitI];try omega),rfl⟩
theorem inside_any (c:Int) (w:World) :
  Calls Tryz.prog 162 #[.int .u8 c] w fun e w'=>e=.returned (.bool (insideI c))/\w=w':=by
 have HW:=kp (white_any c w);have HQ:=kp (show whiteI c=decide (c=32\/c=9\/c=10\/c=13) from rfl);generalize whiteI c=b at *
 go_enter Tryz.func162,Tryz.ntmps162
 go_wp2_with (go_at_call 164;refine HW.out.mono ?_;rintro e w' ⟨rfl,rfl⟩)
 all_goals
  go_ret;have hq:=HQ.out;exact⟨ret_bool (by rw [Bool.eq_iff_iff];simp [insideI,hq];try omega),rfl⟩
theorem low_bits:∀ n:Nat,n < 64->(bits BinOp.and IntKind.u64 (17582031444648132608 / 2 ^ n) 1 == 1)=signI (n:Int):=by
 intro n hn;exact(show ∀ n:Fin 64,(bits BinOp.and IntKind.u64 (17582031444648132608 / 2 ^ n.val) 1 == 1)=signI (n.val:Int) by decide +kernel) ⟨n,hn⟩
theorem high_bits:∀ n:Nat,n < 64->(bits BinOp.and IntKind.u64 (5188146765496319999 / 2 ^ n) 1 == 1)=signI ((n+64:Nat):Int):=by
 intro n hn;exact(show ∀ n:Fin 64,(bits BinOp.and IntKind.u64 (5188146765496319999 / 2 ^ n.val) 1 == 1)=signI ((n.val+64:Nat):Int) by decide +kernel) ⟨n,hn⟩
theorem sign_any (c:Int) (w:World) (h0:0<=c) (h1:c<=255) :
  Calls Tryz.prog 120 #[.int .u8 c] w fun e w'=>e=.returned (.bool (signI c))/\w=w':=by
 obtain ⟨n,rfl⟩:=Int.eq_ofNat_of_zero_le h0
 by_cases h2:n < 64
 ·have h2':(n:Int) < 64:=by omega
  have HB:=kp (low_bits n h2)
  go_enter Tryz.func120,Tryz.ntmps120
  go_wp2_with fail
  go_ret;exact⟨ret_bool (by rw [← HB.out]),rfl⟩
 ·have h2':=dfq (show ¬ (n:Int) < 64 by omega)
  by_cases h3:n < 128
  ·obtain ⟨m,rfl⟩:∃ m,n=m+64:=⟨n - 64,by omega⟩;have h3':((m+64:Nat):Int) < 128:=by omega
   have h4:0<=((m+64:Nat):Int) - 64:=by omega
   have HB:=kp (high_bits m (by omega));have HE:=kp (show(((m+64:Nat):Int) - 64).toNat=m by omega);generalize ((m+64:Nat):Int)=x at *
   go_enter Tryz.func120,Tryz.ntmps120
   go_wp2_with fail
   go_ret;exact⟨ret_bool (by have h:=HB.out;rw [← HE.out] at h;exact h),rfl⟩
  ·have h3':=dfq (show ¬ (n:Int) < 128 by omega);have HS:=kp (show false=signI (n:Int) by rw [eq_comm,Bool.eq_false_iff];simp [signI];omega)
   go_enter Tryz.func120,Tryz.ntmps120
   go_wp2_with fail
   go_ret;exact⟨ret_bool HS.out,rfl⟩
def resL:List (List UInt8):=[[95],[33],[97,115],[108,101,116],[101,120,105,115,116,115],[102,111,114,97,108,108],[109,97,116,99,104],[112,97,114]]
def resB (l:List UInt8):Bool:=resL.contains l
theorem reserved_any (s:ByteArray) (w:World) :
  Calls Tryz.prog 60 #[.string s] w fun e w'=>e=.returned (.bool (resB (bs s)))/\w=w':=by
 go_enter Tryz.func60,Tryz.ntmps60
 go_wp2_with fail
 all_goals
  go_ret;exact⟨ret_bool (by rw [← bs_toList];simp_all [resB,resL]),rfl⟩
theorem all_inside (s:ByteArray) (w:World) (hs:(s.size:Int)<=9223372036854775807) :
  Calls Tryz.prog 119 #[.string s,.func (Fn.func 162) #[] #[]] w fun e w'=>e=.returned (.bool ((bs s).all fun c=>insideI c.toNat))/\w=w':=by
 go_enter Tryz.func119,Tryz.ntmps119
 go_wp2_with fail
 go_loop [8,5] (fun v _=>∃ k:Nat,k<=s.size/\v=.int .i64 k/\((bs s).take k).all (fun c=>insideI c.toNat)=true) (fun v _=>s.size - (intOf v).toNat)
 case atStart=>exact⟨0,Nat.zero_le _,rfl,rfl⟩
 case round =>
  obtain ⟨k,hk,rfl,hall⟩:=hrel;have HA:=kp hall;clear hall
  by_cases hlt:k < s.size
  ·have hlt2:(k:Int) < (s.size:Int):=by omega
   have HC:=kp ((fun c w _ _=>inside_any c w) (s[k].toNat:Int) w (by omega) (by have:=s[k].toNat_lt;omega));have HT:=kp (bs_next hlt);have HM:=kp (show s[k] ∈ (bs s) from bs_mem hlt)
   cases hb:insideI (s[k].toNat:Int) with
   | true =>
    have HB:=kp hb;rw [hb] at HC;clear hb;go_wp2_with fail
    refine HC.out.mono ?_;rintro e w' ⟨rfl,rfl⟩;go_wp2_with fail
    go_round
    case rel=>exact⟨k+1,by omega,by go_num,by rw [HT.out,List.all_append,HA.out];simp [HB.out]⟩
    case measure=>simp [intOf];omega
   | false =>
    have HB:=kp (show((bs s).all fun c=>insideI c.toNat)=false from by rw [Bool.eq_false_iff];intro h;rw [List.all_eq_true] at h;have:=h _ HM.out;rw [hb] at this;cases this);rw [hb] at HC;clear hb;go_wp2_with fail
    refine HC.out.mono ?_;rintro e w' ⟨rfl,rfl⟩;go_wp2_with fail
    go_ret;exact⟨ret_bool HB.out.symm,rfl⟩
  ·obtain rfl:k=s.size:=by omega
   have HB:=kp (show((bs s).all fun c=>insideI c.toNat)=true from by have h:=HA.out;rwa [List.take_of_length_le (by rw [bs_length];omega)] at h);go_wp2_with fail
   go_ret;exact⟨ret_bool HB.out.symm,rfl⟩
theorem all_sign (s:ByteArray) (w:World) (hs:(s.size:Int)<=9223372036854775807) :
  Calls Tryz.prog 119 #[.string s,.func (Fn.func 120) #[] #[]] w fun e w'=>e=.returned (.bool ((bs s).all fun c=>signI c.toNat))/\w=w':=by
 go_enter Tryz.func119,Tryz.ntmps119
 go_wp2_with fail
 go_loop [8,5] (fun v _=>∃ k:Nat,k<=s.size/\v=.int .i64 k/\((bs s).take k).all (fun c=>signI c.toNat)=true) (fun v _=>s.size - (intOf v).toNat)
 case atStart=>exact⟨0,Nat.zero_le _,rfl,rfl⟩
 case round =>
  obtain ⟨k,hk,rfl,hall⟩:=hrel;have HA:=kp hall;clear hall
  by_cases hlt:k < s.size
  ·have hlt2:(k:Int) < (s.size:Int):=by omega
   have HC:=kp ((fun c w h0 h1=>sign_any c w h0 h1) (s[k].toNat:Int) w (by omega) (by have:=s[k].toNat_lt;omega));have HT:=kp (bs_next hlt);have HM:=kp (show s[k] ∈ (bs s) from bs_mem hlt)
   cases hb:signI (s[k].toNat:Int) with
   | true =>
    have HB:=kp hb;rw [hb] at HC;clear hb;go_wp2_with fail
    refine HC.out.mono ?_;rintro e w' ⟨rfl,rfl⟩;go_wp2_with fail
    go_round
    case rel=>exact⟨k+1,by omega,by go_num,by rw [HT.out,List.all_append,HA.out];simp [HB.out]⟩
    case measure=>simp [intOf];omega
   | false =>
    have HB:=kp (show((bs s).all fun c=>signI c.toNat)=false from by rw [Bool.eq_false_iff];intro h;rw [List.all_eq_true] at h;have:=h _ HM.out;rw [hb] at this;cases this);rw [hb] at HC;clear hb;go_wp2_with fail
    refine HC.out.mono ?_;rintro e w' ⟨rfl,rfl⟩;go_wp2_with fail
    go_ret;exact⟨ret_bool HB.out.symm,rfl⟩
  ·obtain rfl:k=s.size:=by omega
   have HB:=kp (show((bs s).all fun c=>signI c.toNat)=true from by have h:=HA.out;rwa [List.take_of_length_le (by rw [bs_length];omega)] at h);go_wp2_with fail
   go_ret;exact⟨ret_bool HB.out.symm,rfl⟩
def mayB (l:List UInt8):Bool:=decide (l.length<=100) && l.all fun c=>insideI c.toNat
theorem may_any (s:ByteArray) (w:World) (hs:(s.size:Int)<=9223372036854775807) :
  Calls Tryz.prog 110 #[.string s] w fun e w'=>e=.returned (.bool (mayB (bs s)))/\w=w':=by
 have HA:=kp (all_inside s w hs);have HM:=kp (show mayB (bs s)=(decide (s.size<=100) && (bs s).all fun c=>insideI c.toNat) by unfold mayB;rw [bs_length]);generalize ((bs s).all fun c=>insideI c.toNat)=b at *
 by_cases h1:s.size<=100
 ·have h:(s.size:Int)<=100:=by omega
  go_enter Tryz.func110,Tryz.ntmps110
  go_wp2_with fail
  refine HA.out.mono ?_;rintro e w' ⟨rfl,rfl⟩;go_wp2_with fail
  go_ret;exact⟨ret_bool (by rw [HM.out];simp [h1]),rfl⟩
 ·have h:decide ((s.size:Int)<=100)=false:=dfq (by omega)
  go_enter Tryz.func110,Tryz.ntmps110
  go_wp2_with fail
  go_ret;exact⟨ret_bool (by rw [HM.out];simp [h1]),rfl⟩
def plainB (l:List UInt8):Bool:=!l.isEmpty && decide (l.length<=100) && (l.all fun c=>signI c.toNat) && !digitI (l.getD 0 0).toNat && !resB l
def quoteL (l:List UInt8):List UInt8:=if plainB l || resB l then l else 124 :: (l ++ [124])
theorem bs_mk (l:List UInt8):bs ⟨l.toArray⟩=l:=by unfold bs;simp
theorem bs_append (s t:ByteArray):bs (s ++ t)=bs s ++ bs t:=by unfold bs;simp
def quoteS (s:ByteArray):ByteArray:=if plainB (bs s) || resB (bs s) then s else { data:=#[124] } ++ s ++ { data:=#[124] }
theorem bs_quoteS (s:ByteArray):bs (quoteS s)=quoteL (bs s):=by
 unfold quoteS quoteL
 split
 ·rfl
 ·rw [bs_append,bs_append];rfl
end Lx
section
open Go.RowKit
def mayB (n:Int):Bool:=decide (-4611686018427387904<=n/\n<=4611686018427387904)
theorem mayB_iff {n:Int}:mayB n=true ↔ (-4611686018427387904<=n/\n<=4611686018427387904):=by simp [mayB]
def putN (p:Int × Bool) (d:Int):Int × Bool:=if(4611686018427387904 - d) / 10 < p.1 then(p.1,true) else(p.1 * 10+d,p.2)
def putAll (p:Int × Bool) (l:List UInt8):Int × Bool:=l.foldl (fun p c=>putN p ((c.toNat:Int) % 16)) p
def isDig (c:UInt8):Bool:=decide (48<=(c.toNat:Int)/\(c.toNat:Int)<=57)
theorem isDig_iff {c:UInt8}:isDig c=true ↔ 48<=(c.toNat:Int)/\(c.toNat:Int)<=57:=by simp [isDig]
def isNum (l:List UInt8):Bool:=!l.isEmpty && !(decide (1 < l.length) && l.getD 0 0 == 48) && l.all isDig
def parseV (l:List UInt8):Int:=if isNum l then(if(putAll (0,false) l).2 then 0 else(putAll (0,false) l).1) else 0
def parseE (l:List UInt8):Int:=if isNum l then(if(putAll (0,false) l).2 then 10 else 0) else 20
def sumStep (most:Int) (p:Option Int) (n:Int):Option Int:=p.bind fun s=>if mayB n && decide (n.natAbs < most - s) then some (s+n.natAbs+1) else none
def sumAll (most:Int) (l:List Int):Option Int:=l.foldl (sumStep most) (some 0)
def within0 (most:Int):Int:=min (max most 0) 4611686018427387904
def sumB (l:List Int) (most:Int):Bool:=(sumAll (within0 most) l).isSome
structure Keeps (S:Nat->Prop) (w w':World):Prop where
 os:w'.os=w.os
 tape:w'.tape=w.tape
 output:w'.output=w.output
 size:w.heap.size<=w'.heap.size
 block:∀ k,k < w.heap.size->¬ S k->w'.heap[k]?=w.heap[k]?
def more (S:Nat->Prop) (w w':World):Nat->Prop:=fun k=>S k\/(w.heap.size<=k/\k < w'.heap.size)
section
variable {S T:Nat->Prop} {w w1 w2 w':World}
theorem Keeps.refl (S:Nat->Prop) (w:World):Keeps S w w:=⟨rfl,rfl,rfl,nlq,fun _ _ _=>rfl⟩
theorem Keeps.trans (h:Keeps S w w1) (k:Keeps T w1 w2) (hT:∀ j,j < w.heap.size->T j->S j):Keeps S w w2 :=
 ⟨k.os.trans h.os,k.tape.trans h.tape,k.output.trans h.output,Nat.le_trans h.size k.size,fun j hj hs =>
  (k.block j (Nat.lt_of_lt_of_le hj h.size) (fun ht=>hs (hT j hj ht))).trans (h.block j hj hs)⟩
theorem Keeps.trans_same (h:Keeps S w w1) (k:Keeps S w1 w2):Keeps S w w2:=h.trans k (fun _ _ h=>h)
theorem Keeps.mono (h:Keeps S w w') (hS:∀ j,S j->T j):Keeps T w w':=⟨h.os,h.tape,h.output,h.size,fun j hj ht=>h.block j hj (fun hs=>ht (hS j hs))⟩
theorem Keeps.drew (h:Keeps S w w'):Keeps S w w'.drew:=⟨h.os,h.tape,h.output,h.size,h.block⟩
theorem Keeps.drewN (h:Keeps S w w') (n:Nat):Keeps S w (w'.drewN n):=⟨h.os,h.tape,h.output,h.size,h.block⟩
theorem Keeps.alloc (h:Keeps S w w') (o:Obj):Keeps S w (w'.alloc o) :=
 ⟨h.os,h.tape,h.output,Nat.le_trans h.size (by simp),fun j hj hs=>(Below.heap_alloc w' o j (Nat.lt_of_lt_of_le hj h.size)).trans (h.block j hj hs)⟩
theorem Keeps.setCell (h:Keeps S w w') {p:Addr} (hp:S p.block\/w.heap.size<=p.block) (u:Value):Keeps S w (w'.setCell p u) :=
 ⟨h.os,h.tape,h.output,by simpa [World.setCell] using h.size,fun j hj hs=>(Below.heap_setCell w' p u j (by
  rintro rfl;rcases hp with hp | hp
  ·exact hs hp
  ·omega)).trans (h.block j hj hs)⟩
theorem Keeps.grown (h:Keeps S w w1) {row:Option Nat} (hg:w1.grownBy w2 row) (hr:∀ k,row=some k->S k\/w.heap.size<=k):Keeps S w w2 :=
 ⟨hg.os.trans h.os,hg.tape.trans h.tape,hg.output.trans h.output,Nat.le_trans h.size hg.size,fun j hj hs =>
  (hg.block j (Nat.lt_of_lt_of_le hj h.size) (fun e=>by
   rcases hr j e.symm with h1 | h1
   ·exact hs h1
   ·omega)).trans (h.block j hj hs)⟩
theorem Keeps.of_below (h:Below w.heap.size w w') (S:Nat->Prop):Keeps S w w':=⟨h.os,h.tape,h.output,h.size,fun j hj _=>h.block j hj⟩
theorem Keeps.below {B:Nat} (h:Keeps S w w') (hS:∀ k,S k->B<=k) (hB:B<=w.heap.size):Below B w w' :=
 ⟨h.os,h.tape,h.output,h.size,fun k hk=>h.block k (by omega) (fun hs=>by have:=hS k hs;omega)⟩
theorem Keeps.cell (h:Keeps S w w') {b o:Nat} (hb:b < w.heap.size) (hs:¬ S b):w'.cell? ⟨b,o,none⟩=w.cell? ⟨b,o,none⟩ :=
 World.cell?_of_block (w:=w) (h.block b hb hs)
end
theorem lt_of_block {w:World} {k:Nat} {o:Obj} (h:w.heap[k]?=some o):k < w.heap.size:=(Array.getElem?_eq_some_iff.1 h).1
end
section
open Go.RowKit Go.ChangeShapes Go.WideShapes Go.ChangeAt Go.WideMaps Go.WideElems
section
variable {H:Type} {enc:TypeId × Value->H} {P:Program}
theorem trodAll_below (hl:laidOutB P=true) {W W':World} (hb:Below W.heap.size W W'):∀ {ts:List TypeId} {vs:List Value} {ds:List (DataW H)} {ps:List MemPlace},
  (ts.all fun t=>P.readableRec t && decide (t < P.types.size))=true->DataW.TrodAll enc P W 0 (fun _=>true) true ts vs ds ps->(∀ x ∈ ps,x.block < W.heap.size) ->
  DataW.TrodAll enc P W' 0 (fun b=>decide (b < W.heap.size)) true ts vs ds ps
 | [],[],[],_,_,h,_=>h
 | t :: ts,v :: vs,d :: ds,ps,hr,h,hlt=>by
  obtain ⟨p,q,h1,h2,rfl⟩:=h;simp only [List.all_cons,Bool.and_eq_true,decide_eq_true_eq] at hr;exact⟨p,q,Below.trod hl hr.1.1 hr.1.2 h1 hb (fun x hx=>hlt x (by simp [hx])),trodAll_below hl hb hr.2 h2 (fun x hx=>hlt x (by simp [hx])),rfl⟩
 | [],_ :: _,_,_,_,h,_=>by simp [DataW.TrodAll] at h
 | [],[],_ :: _,_,_,h,_=>by simp [DataW.TrodAll] at h
 | _ :: _,[],_,_,_,h,_=>by simp [DataW.TrodAll] at h
 | _ :: _,_ :: _,[],_,_,h,_=>by simp [DataW.TrodAll] at h
theorem law_post {f:Func} {s:ChangeSpec} {W W':World} {args:Array Value} {ds gs:List (DataW H)} {before:List MemPlace} {tb:TypeId}
  (hl:laidOutB P=true) (hr:(f.params.toList.all fun t=>P.readableRec t && decide (t < P.types.size))=true) (hres:f.resultTypes=#[tb]) (htb:P.underlying tb=some .bool) (hsv:s.vars=[])
  (hfn:s.fn H ds={ results:=[.lit (.bool true)],args:=ds })
  (hW:DataW.Whole enc P f.params.toList s.vars false W args.toList ds gs before) (hb:Below W.heap.size W W') :
  s.post enc P f false true false false W args (.bool true) W':=by
 have hW0:=hW;have hlt:∀ p ∈ before,p.block < W.heap.size:=fun p hp=>hW.lt p hp;obtain ⟨p,q,hA,hV,rfl,hfz,hnd⟩:=hW;rw [hsv] at hV;obtain ⟨rfl,rfl⟩:=trodVars_none hV;refine⟨ds,[],p ++ [],[],p,[],hW0,?_,?_,?_,?_,fun h=>by cases h⟩
 ·rw [List.append_nil,hfn,hres];exact trodAll_mk1 (shut_bool htb true)
 ·rw [List.append_nil,hfn];exact trodAll_below hl hb hr hA (fun x hx=>hlt x (by simp [hx]))
 ·rw [List.append_nil,hfn,hsv]
  rfl
 ·exact World.keptBut_mono (fun x hx=>⟨hx,Or.inr (Or.inl (by simpa using hx))⟩) (hb.frame (· ∈ p ++ []))
end
section
variable {H:Type} {enc:TypeId × Value->H} {P:Program}
end
theorem laidOut:laidOutB Tryz.prog=true:=by kernel_rfl
theorem own:ownKnob Tryz.prog.godebug=none:=by kernel_rfl
end
section
open Go.RowKit Go.ChangeShapes Go.WideShapes Go.Deep
def Lasts {α:Type} (R:World->List Value->α->Prop):Prop:=∀ w w' vs x,Below w.heap.size w w'->R w vs x->R w' vs x
def RowAt {α:Type} (n:Nat) (R:World->List Value->α->Prop) (w:World) (b o:Nat) (xs:List α):Prop :=
 ∀ i x,xs[i]?=some x->∃ vs:List Value,vs.length=n/\(∀ j u,vs[j]?=some u->w.cell? ⟨b,o+i * n+j,none⟩=some u)/\R w vs x
def Lies {α:Type} (n:Nat) (R:World->List Value->α->Prop) (w:World) (A:Option Addr) (xs:List α):Prop :=
 xs=[]\/∃ b o,A=some ⟨b,o,none⟩/\b < w.heap.size/\RowAt n R w b o xs
section
variable {α:Type} {n:Nat} {R:World->List Value->α->Prop} {w w':World} {A:Option Addr} {xs:List α}
theorem Lies.on (hR:Lasts R) (h:Lies n R w A xs) (hb:Below w.heap.size w w'):Lies n R w' A xs:=by
 rcases h with h | ⟨b,o,hA,hlt,hr⟩
 ·exact .inl h
 ·refine .inr ⟨b,o,hA,Nat.lt_of_lt_of_le hlt hb.size,fun i x hx=>?_⟩;obtain ⟨vs,h1,h2,h3⟩:=hr i x hx;exact⟨vs,h1,fun j u hu=>(hb.cell (p:=⟨b,o+i * n+j,none⟩) hlt).trans (h2 j u hu),hR _ _ _ _ hb h3⟩
theorem Lies.at' (h:Lies n R w A xs) {i:Nat} {x:α} (hx:xs[i]?=some x) :
  ∃ b o vs,A=some ⟨b,o,none⟩/\b < w.heap.size/\vs.length=n/\(∀ j u,vs[j]?=some u->w.cell? ⟨b,o+i * n+j,none⟩=some u)/\R w vs x:=by
 rcases h with h | ⟨b,o,hA,hlt,hr⟩
 ·subst h;simp at hx
 ·obtain ⟨vs,h1,h2,h3⟩:=hr i x hx;exact⟨b,o,vs,hA,hlt,h1,h2,h3⟩
theorem Lies.take (h:Lies n R w A xs) (k:Nat):Lies n R w A (xs.take k):=by
 rcases h with h | ⟨b,o,hA,hlt,hr⟩
 ·exact .inl (by rw [h];simp)
 ·refine .inr ⟨b,o,hA,hlt,fun i x hx=>hr i x ?_⟩;rw [List.getElem?_take] at hx
  split at hx
  ·exact hx
  ·cases hx
theorem Lies.imp {β:Type} {S:World->List Value->β->Prop} {ys:List β} (h:Lies n R w A xs) (hl:ys.length=xs.length) (hi:∀ (i:Nat) x y vs,xs[i]?=some x->ys[i]?=some y->R w vs x->S w vs y):Lies n S w A ys:=by
 rcases h with h | ⟨b,o,hA,hlt,hr⟩
 ·subst h;exact .inl (List.length_eq_zero_iff.1 hl)
 ·refine .inr ⟨b,o,hA,hlt,fun i y hy=>?_⟩;have hlt:i < ys.length:=(gqs hy).1;have hx:=gqe (show i < xs.length by omega);obtain ⟨vs,h1,h2,h3⟩:=hr i _ hx;exact⟨vs,h1,h2,hi i _ y vs hx hy h3⟩
end
def One {α:Type} (f:α->Value) (_:World) (vs:List Value) (x:α):Prop:=vs=[f x]
theorem One.lasts {α:Type} (f:α->Value):Lasts (One f):=fun _ _ _ _ _ h=>h
theorem Lies.one {α:Type} {f:α->Value} {w:World} {A:Option Addr} {xs:List α} (h:Lies 1 (One f) w A xs):Cells w A (xs.map f):=by
 rcases h with h | ⟨b,o,hA,hlt,hr⟩
 ·subst h;exact .inl rfl
 ·refine .inr ⟨b,o,hA,hlt,fun j u hu=>?_⟩;have hj:j < xs.length:=by have:=(gqs hu).1;simpa using this
  obtain ⟨vs,h1,h2,h3⟩:=hr j _ (gqe hj);have:vs=[f xs[j]]:=h3;subst this;have:=h2 0 (f xs[j]) rfl;rw [Nat.mul_one,Nat.add_zero] at this;rw [this,← hu];simp [hj]
theorem lies_list {α:Type} {P:Nat->α->Prop} (n:Nat) (h:∀ i,i < n->∃ x,P i x):∃ l:List α,l.length=n/\∀ i x,l[i]?=some x->P i x:=by
 induction n with
 | zero=>exact⟨[],rfl,fun i x hx=>by simp at hx⟩
 | succ n ih =>
  obtain ⟨l,hl,hp⟩:=ih (fun i hi=>h i (by omega));obtain ⟨x,hx⟩:=h n (by omega);refine⟨l ++ [x],by simp [hl],fun i y hy=>?_⟩
  by_cases hi:i < n
  ·rw [List.getElem?_append_left (by omega)] at hy;exact hp i y hy
  ·rw [List.getElem?_append_right (by omega)] at hy
   by_cases e:i=n
   ·subst e;rw [hl] at hy;simp at hy;subst hy;exact hx
   ·rw [List.getElem?_eq_none (by simp;omega)] at hy;cases hy
section
variable {H:Type} {enc:TypeId × Value->H} {P:Program}
def Fits (P:Program) (t:TypeId) (d:DataW H):Prop:=∀ n ∈ d.weights P t,n<=140737488351232
theorem fits_all {e:TypeId}:∀ {ds:List (DataW H)},(∀ n ∈ DataW.weightsAll P e ds,n<=140737488351232)->∀ d ∈ ds,Fits P e d
 | [],_=>fun d hd=>by cases hd
 | d0 :: r,h=>fun d hd=>by
  unfold DataW.weightsAll at h;rcases List.mem_cons.1 hd with e | e
  ·subst e;exact fun n hn=>h n (List.mem_append_left _ hn)
  ·exact fits_all (fun n hn=>h n (List.mem_append_right _ hn)) d e
theorem fits_each:∀ {ts:List TypeId} {ds:List (DataW H)},(∀ n ∈ DataW.weightsEach P ts ds,n<=140737488351232)->∀ (i:Nat) t d,ts[i]?=some t->ds[i]?=some d->Fits P t d
 | [],_,_=>fun i t d ht _=>by simp at ht
 | _ :: _,[],_=>fun i t d _ hd=>by simp at hd
 | t0 :: ts,d0 :: ds,h=>fun i t d ht hd=>by
  unfold DataW.weightsEach at h
  cases i with
  | zero=>simp at ht hd;subst ht;subst hd;exact fun n hn=>h n (List.mem_append_left _ hn)
  | succ i=>simp at ht hd;exact fits_each (fun n hn=>h n (List.mem_append_right _ hn)) i t d ht hd
theorem fits_slice {t e:TypeId} {el sp:List (DataW H)} (ht:P.underlying t=some (.slice e)) (h:Fits P t (.slice el sp)):(el.length+sp.length) * P.bytesOf e<=140737488351232/\∀ d ∈ el,Fits P e d:=by
 unfold Fits DataW.weights at h;rw [ht] at h;exact⟨h _ (List.mem_cons_self ..),fits_all fun n hn=>h n (List.mem_cons_of_mem _ (List.mem_append_left _ hn))⟩
theorem fits_struct {t:TypeId} {fs:Array Field} {ps:List (DataW H)} (ht:P.underlying t=some (.struct fs)) (h:Fits P t (.agg ps)):∀ (i:Nat) (f:Field) d,fs[i]?=some f->ps[i]?=some d->Fits P f.type d:=by
 unfold Fits DataW.weights at h;rw [ht] at h;exact fun i f d hf hd=>fits_each h i f.type d (by simp [hf]) hd
theorem fits_array {t e:TypeId} {n:Nat} {ps:List (DataW H)} (ht:P.underlying t=some (.array n e)) (h:Fits P t (.agg ps)):∀ d ∈ ps,Fits P e d:=by
 unfold Fits DataW.weights at h;rw [ht] at h;exact fits_all h
def Opens {α:Type} (H:Type) (enc:TypeId × Value->H) (P:Program) (t:TypeId) (R:World->List Value->α->Prop) (fuel:Nat):Prop :=
 ∀ (W:World) (cs:List Value) (y:DataW H × List MemPlace),DataW.trod enc P W 0 (fun _=>true) true fuel t cs=some y->Fits P t y.1->∃ x,R W cs x
theorem open_int {t:TypeId} {k:IntKind} (ht:P.underlying t=some (.int k)) {W:World} {fuel:Nat} {cs:List Value} {y:DataW H × List MemPlace} (h:DataW.trod enc P W 0 (fun _=>true) true fuel t cs=some y):∃ n,cs=[.int k n]/\(Lit.int k n).wf=true:=by
 obtain ⟨n,h1,_,h2⟩:=DataW.trod_int ht h;exact⟨n,h1,h2⟩
theorem open_str {t:TypeId} (ht:P.underlying t=some .string) {W:World} {fuel:Nat} {cs:List Value} {y:DataW H × List MemPlace} (h:DataW.trod enc P W 0 (fun _=>true) true fuel t cs=some y) (hf:Fits P t y.1):∃ s:ByteArray,cs=[.string s]/\(s.size:Int)<=140737488351232:=by
 obtain ⟨s,h1,h2,_⟩:=DataW.trod_string ht h;refine⟨s,h1,?_⟩;rw [h2] at hf;have:=hf s.data.toList.length (by unfold DataW.weights;exact List.mem_cons_self ..);have e:s.data.toList.length=s.size:=by simp
 omega
theorem open_lies {α:Type} {R:World->List Value->α->Prop} {t e:TypeId} {n fuel:Nat} {W:World} {cs:List Value} {y:DataW H × List MemPlace} (ht:P.underlying t=some (.slice e)) (hn:P.cellsOf e=n) (hn0:0 < n)
  (hR:∀ fuel',fuel' < fuel->Opens H enc P e R fuel') (h:DataW.trod enc P W 0 (fun _=>true) true fuel t cs=some y) (hf:Fits P t y.1) :
  ∃ (A:Option Addr) (cap:Nat) (xs:List α),cs=[.slice A xs.length cap]/\Lies n R W A xs/\xs.length<=cap/\cap<=maxLen/\xs.length * P.bytesOf e<=140737488351232:=by
 rcases DataW.trod_slice ht h with⟨hcs,hx⟩ | ⟨a,len,cap,elems,rest,m,hfu,hcs,hy,_,hl,hm,hlen,hel,_⟩
 ·exact⟨none,0,[],hcs,.inl rfl,by simp,by simp,by simp⟩
 ·subst hfu;rw [hn] at hel;rw [hy] at hf;obtain ⟨hb,hfe⟩:=fits_slice ht hf
  obtain ⟨l,hll,hlp⟩:=lies_list (P:=fun i (x:α)=>∃ vs,W.cells? 0 (a.add (i * n)) n=some vs/\R W vs x) len (fun i hlt=>by
   have h1:=hel i hlt;rw [gqe (by omega)] at h1;obtain ⟨vs,hv,ht'⟩:=Option.bind_eq_some_iff.1 h1;obtain ⟨x,hx⟩:=hR m (by omega) W vs _ ht' (hfe _ (List.mem_map.2 ⟨_,List.getElem_mem (by omega),rfl⟩));exact⟨x,vs,hv,hx⟩)
  have hlb:l.length * P.bytesOf e<=140737488351232:=by
   rw [List.length_map,List.length_map] at hb;exact Nat.le_trans (Nat.mul_le_mul_right _ (by omega)) hb
  refine⟨some a,cap,l,by rw [hll];exact hcs,?_,by omega,hm,hlb⟩
  by_cases h0:l=[]
  ·exact .inl h0
  ·right
   have hlen0:0 < l.length:=List.length_pos_iff.2 h0;obtain ⟨vs0,hv0,_⟩:=hlp 0 _ (gqe hlen0);obtain ⟨_,hvl,hat⟩:=World.cells?_some hv0;have hc0:=hat 0 hn0;rw [gqe (by omega)] at hc0;have e00:(a.add (0 * n)).add 0=a:=by unfold Addr.add;simp
   rw [e00] at hc0
   have hsp:a.spot=none:=by
    cases hs:a.spot with
    | none=>rfl
    | some q =>
     exfalso
     unfold World.cell? at hc0
     split at hc0
     ·rw [hs] at hc0;simp at hc0
     ·cases hc0
   obtain ⟨b,o,sp⟩:=a;simp only at hsp;subst hsp
   have hadd:∀ i j,((⟨b,o,none⟩:Addr).add (i * n)).add j=⟨b,o+i * n+j,none⟩:=fun i j=>by
    rw [Go.Deep.add_add];unfold Addr.add
    split
    ·simp_all
    ·simp [Nat.add_assoc]
   refine⟨b,o,rfl,World.block_lt_of_cell? W _ hc0,fun i x hx=>?_⟩;obtain ⟨vs,hv,hr⟩:=hlp i x hx;obtain ⟨_,hvl,hat⟩:=World.cells?_some hv;refine⟨vs,by omega,fun j u hu=>?_,hr⟩;have hj:j < n:=by have:=(gqs hu).1;omega
   rw [← hadd,hat j hj];exact hu
def SliceR {α:Type} (n b:Nat) (R:World->List Value->α->Prop) (W:World) (cs:List Value) (xs:List α):Prop :=
 ∃ A cap,cs=[.slice A xs.length cap]/\Lies n R W A xs/\xs.length<=cap/\cap<=maxLen/\xs.length * b<=140737488351232
theorem SliceR.lasts {α:Type} {n b:Nat} {R:World->List Value->α->Prop} (hR:Lasts R):Lasts (SliceR n b R):=fun _ _ _ _ hb ⟨A,cap,h1,h2,h3⟩=>⟨A,cap,h1,h2.on hR hb,h3⟩
theorem opens_slice {α:Type} {R:World->List Value->α->Prop} {t e:TypeId} {n b fuel:Nat} (ht:P.underlying t=some (.slice e)) (hn:P.cellsOf e=n) (hb:P.bytesOf e=b) (hn0:0 < n)
  (hR:∀ fuel',fuel' < fuel->Opens H enc P e R fuel'):Opens H enc P t (SliceR n b R) fuel:=fun W cs y h hf=>by
 obtain ⟨A,cap,xs,h1,h2,h3,h4,h5⟩:=open_lies ht hn hn0 hR h hf;exact⟨xs,A,cap,h1,h2,h3,h4,by rw [← hb];exact h5⟩
theorem field_of {α:Type} {R:World->List Value->α->Prop} {t:TypeId} {fs:Array Field} {fuel:Nat} {W:World} {cs:List Value} {y:DataW H × List MemPlace} (ht:P.underlying t=some (.struct fs))
  (h:DataW.trod enc P W 0 (fun _=>true) true fuel t cs=some y) (hf:Fits P t y.1) (i:Nat) (f:Field) (hi:fs[i]?=some f) (hR:∀ fuel',fuel' < fuel->Opens H enc P f.type R fuel') :
  ∃ x,R W ((cs.drop f.offset).take (P.cellsOf f.type)) x:=by
 obtain ⟨ys,n,hn,hy,_,hyl,hg⟩:=DataW.trod_struct ht h;have h1:=hg i f hi;have hil:i < fs.size:=(Array.getElem?_eq_some_iff.1 hi).1;rw [gqe (show i < ys.length by omega)] at h1;rw [hy] at hf;exact hR n (by omega) W _ _ h1 (fits_struct ht hf i f _ hi (by rw [List.getElem?_map,gqe (show i < ys.length by omega)];rfl))
theorem struct_len {t:TypeId} {fs:Array Field} {fuel:Nat} {W:World} {cs:List Value} {y:DataW H × List MemPlace} (ht:P.underlying t=some (.struct fs))
  (h:DataW.trod enc P W 0 (fun _=>true) true fuel t cs=some y):cs.length=P.cellsOf t:=(DataW.trod_struct ht h).choose_spec.choose_spec.2.2.1
theorem array_of {α:Type} {R:World->List Value->α->Prop} {t e:TypeId} {m fuel:Nat} {W:World} {cs:List Value} {y:DataW H × List MemPlace} (ht:P.underlying t=some (.array m e))
  (h:DataW.trod enc P W 0 (fun _=>true) true fuel t cs=some y) (hf:Fits P t y.1) (n:Nat) (hn:P.cellsOf e=n) (i:Nat) (hi:i < m) (hR:∀ fuel',fuel' < fuel->Opens H enc P e R fuel') :
  ∃ x,R W ((cs.drop (i * n)).take n) x:=by
 subst hn;obtain ⟨ys,n,hn,hy,_,hyl,hg⟩:=DataW.trod_array ht h;have h1:=hg i hi;rw [gqe (show i < ys.length by omega)] at h1;rw [hy] at hf;exact hR n (by omega) W _ _ h1 (fits_array ht hf _ (List.mem_map.2 ⟨_,List.getElem_mem (by omega),rfl⟩))
def IntR (k:IntKind) (_:World) (vs:List Value) (n:Int):Prop:=vs=[.int k n]/\(Lit.int k n).wf=true
theorem IntR.lasts (k:IntKind):Lasts (IntR k):=fun _ _ _ _ _ h=>h
theorem opens_int {t:TypeId} {k:IntKind} (ht:P.underlying t=some (.int k)) (fuel:Nat):Opens H enc P t (IntR k) fuel:=fun _ _ _ h _=>open_int ht h
def StrR (_:World) (vs:List Value) (s:ByteArray):Prop:=vs=[.string s]/\(s.size:Int)<=140737488351232
theorem StrR.lasts:Lasts StrR:=fun _ _ _ _ _ h=>h
theorem opens_str {t:TypeId} (ht:P.underlying t=some .string) (fuel:Nat):Opens H enc P t StrR fuel:=fun _ _ _ h hf=>open_str ht h hf
end
theorem IntR.i64 {W:World} {vs:List Value} {n:Int} (h:IntR .i64 W vs n):vs=[.int .i64 n]/\I64 n:=⟨h.1,bounds_i64 h.2⟩
end
namespace Dt
open Go.RowKit Go.ChangeShapes Go.WideShapes Go.Deep
inductive Sexp where
 | mk (kind:Int) (text:ByteArray) (l:List Sexp)
def Sexp.kind:Sexp->Int | .mk k _ _=>k
def Sexp.text:Sexp->ByteArray | .mk _ t _=>t
def Sexp.l:Sexp->List Sexp | .mk _ _ l=>l
inductive SexpR (w:World):List Value->Sexp->Prop
 | mk {k:Int} {t:ByteArray} {A:Option Addr} {c:Nat} {l:List Sexp} (b o:Nat) (vs:Nat->List Value) (hk:(Lit.int .i8 k).wf=true) (ht:(t.size:Int)<=140737488351232) (hc:l.length<=c) (hcm:c<=maxLen) (hlb:l.length * 48<=140737488351232)
   (hA:l=[]\/(A=some ⟨b,o,none⟩/\b < w.heap.size)) (hlen:∀ i,i < l.length->(vs i).length=3/\∀ j u,(vs i)[j]?=some u->w.cell? ⟨b,o+i * 3+j,none⟩=some u)
   (hr:∀ i x,l[i]?=some x->SexpR w (vs i) x):SexpR w [.int .i8 k,.string t,.slice A l.length c] (.mk k t l)
theorem SexpR.open' {w:World} {cs:List Value} {x:Sexp} (h:SexpR w cs x) :
  ∃ A c,cs=[.int .i8 x.kind,.string x.text,.slice A x.l.length c]/\Lies 3 SexpR w A x.l/\x.l.length<=c/\c<=maxLen/\(x.text.size:Int)<=140737488351232/\x.l.length * 48<=140737488351232/\(Lit.int .i8 x.kind).wf=true:=by
 cases h with
 | @mk k t A c l b o vs hk ht hc hcm hlb hA hlen hr =>
  refine⟨A,c,rfl,?_,hc,hcm,ht,hlb,hk⟩;rcases hA with h0 | ⟨hA,hb⟩
  ·exact .inl h0
  ·exact .inr ⟨b,o,hA,hb,fun i x hx=>⟨vs i,(hlen i (gqs hx).1).1,(hlen i (gqs hx).1).2,hr i x hx⟩⟩
theorem SexpR.make {w:World} {A:Option Addr} {k:Int} {t:ByteArray} {c:Nat} {l:List Sexp} (hl:Lies 3 SexpR w A l) (hc:l.length<=c) (hcm:c<=maxLen) (ht:(t.size:Int)<=140737488351232) (hlb:l.length * 48<=140737488351232) (hk:(Lit.int .i8 k).wf=true) :
  SexpR w [.int .i8 k,.string t,.slice A l.length c] (.mk k t l):=by
 rcases hl with h0 | ⟨b,o,hA,hb,hr⟩
 ·subst h0;exact .mk 0 0 (fun _=>[]) hk ht hc hcm hlb (.inl rfl) (fun i hi=>by simp at hi) (fun i x hx=>by simp at hx)
 ·have hch:∀ i,∃ vs:List Value,i < l.length->(vs.length=3/\(∀ j u,vs[j]?=some u->w.cell? ⟨b,o+i * 3+j,none⟩=some u))/\∀ x,l[i]?=some x->SexpR w vs x:=fun i=>by
   by_cases hi:i < l.length
   ·obtain ⟨vs,h1,h2,h3⟩:=hr i _ (gqe hi);exact⟨vs,fun _=>⟨⟨h1,h2⟩,fun x hx=>by rw [gqe hi] at hx;simp at hx;subst hx;exact h3⟩⟩
   ·exact⟨[],fun h=>absurd h hi⟩
  refine .mk b o (fun i=>(hch i).choose) hk ht hc hcm hlb (.inr ⟨hA,hb⟩) (fun i hi=>((hch i).choose_spec hi).1) (fun i x hx=>((hch i).choose_spec (gqs hx).1).2 x hx)
theorem SexpR.lasts:Lasts SexpR:=by
 intro w w' vs x hb h
 induction h with
 | mk b o vs hk ht hc hcm hlb hA hlen hr ih =>
  exact .mk b o vs hk ht hc hcm hlb (hA.imp_right fun⟨h1,h2⟩=>⟨h1,Nat.lt_of_lt_of_le h2 hb.size⟩) (fun i hi=>⟨(hlen i hi).1,fun j u hu=>by
   rcases hA with h0 | ⟨_,h2⟩
   ·subst h0;simp at hi
   ·exact(hb.cell (p:=⟨b,o+i * 3+j,none⟩) h2).trans ((hlen i hi).2 j u hu)⟩) ih
structure Fun4 where
 name:ByteArray
 len:Int
 a0:Int
 a1:Int
 a2:Int
 res:Int
def FunR (_:World) (vs:List Value) (f:Fun4):Prop:=vs=[.string f.name,.int .i64 f.len,.int .i64 f.a0,.int .i64 f.a1,.int .i64 f.a2,.int .i64 f.res]/\(f.name.size:Int)<=140737488351232/\I64 f.len/\I64 f.a0/\I64 f.a1/\I64 f.a2/\I64 f.res
theorem FunR.lasts:Lasts FunR:=fun _ _ _ _ _ h=>h
structure Param where
 name:ByteArray
 sort:Int
def ParamR (_:World) (vs:List Value) (p:Param):Prop:=vs=[.string p.name,.int .i64 p.sort]/\(p.name.size:Int)<=140737488351232/\I64 p.sort
theorem ParamR.lasts:Lasts ParamR:=fun _ _ _ _ _ h=>h
structure Macro where
 name:ByteArray
 params:List Param
 res:Int
 body:Sexp
def MacroR (w:World) (vs:List Value) (m:Macro):Prop:=∃ A c bv,vs=.string m.name :: .slice A m.params.length c :: .int .i64 m.res :: bv/\SexpR w bv m.body/\Lies 2 ParamR w A m.params/\m.params.length<=c/\c<=maxLen/\(m.name.size:Int)<=140737488351232/\I64 m.res
theorem MacroR.lasts:Lasts MacroR:=fun _ _ _ _ hb ⟨A,c,bv,h1,h2,h3,h4⟩=>⟨A,c,bv,h1,SexpR.lasts _ _ _ _ hb h2,h3.on ParamR.lasts hb,h4⟩
structure Sig where
 sorts:List ByteArray
 funs:List Fun4
 macros:List Macro
structure SigAt (w:World) (A1:Option Addr) (c1:Nat) (A2:Option Addr) (c2:Nat) (A3:Option Addr) (c3:Nat) (g:Sig):Prop where
 sorts:Lies 1 StrR w A1 g.sorts
 funs:Lies 6 FunR w A2 g.funs
 macros:Lies 6 MacroR w A3 g.macros
 l1:g.sorts.length<=c1
 l2:g.funs.length<=c2
 l3:g.macros.length<=c3
 m1:c1<=maxLen
 m2:c2<=maxLen
 m3:c3<=maxLen
def SigR (w:World) (vs:List Value) (g:Sig):Prop:=∃ A1 c1 A2 c2 A3 c3,vs=[.slice A1 g.sorts.length c1,.slice A2 g.funs.length c2,.slice A3 g.macros.length c3]/\SigAt w A1 c1 A2 c2 A3 c3 g
theorem SigAt.on {w w':World} {A1 A2 A3:Option Addr} {c1 c2 c3:Nat} {g:Sig} (h:SigAt w A1 c1 A2 c2 A3 c3 g) (hb:Below w.heap.size w w'):SigAt w' A1 c1 A2 c2 A3 c3 g :=
 ⟨h.sorts.on StrR.lasts hb,h.funs.on FunR.lasts hb,h.macros.on MacroR.lasts hb,h.l1,h.l2,h.l3,h.m1,h.m2,h.m3⟩
theorem SigR.lasts:Lasts SigR:=fun _ _ _ _ hb ⟨A1,c1,A2,c2,A3,c3,h1,h2⟩=>⟨A1,c1,A2,c2,A3,c3,h1,h2.on hb⟩
structure Row where
 a0:Int
 a1:Int
 a2:Int
 val:Int
def RowR (_:World) (vs:List Value) (r:Row):Prop:=vs=[.int .i64 r.a0,.int .i64 r.a1,.int .i64 r.a2,.int .i64 r.val]/\I64 r.a0/\I64 r.a1/\I64 r.a2/\I64 r.val
theorem RowR.lasts:Lasts RowR:=fun _ _ _ _ _ h=>h
structure FunVal where
 rows:List Row
 els:Int
def FunValR (w:World) (vs:List Value) (f:FunVal):Prop:=∃ A c,vs=[.slice A f.rows.length c,.int .i64 f.els]/\Lies 4 RowR w A f.rows/\f.rows.length<=c/\c<=maxLen/\I64 f.els/\f.rows.length * 32<=140737488351232
theorem FunValR.lasts:Lasts FunValR:=fun _ _ _ _ hb ⟨A,c,h1,h2,h3⟩=>⟨A,c,h1,h2.on RowR.lasts hb,h3⟩
structure Wrld where
 sizes:List Int
 funs:List FunVal
structure WrldAt (w:World) (A1:Option Addr) (c1:Nat) (A2:Option Addr) (c2:Nat) (x:Wrld):Prop where
 sizes:Lies 1 (IntR .i64) w A1 x.sizes
 funs:Lies 2 FunValR w A2 x.funs
 l1:x.sizes.length<=c1
 l2:x.funs.length<=c2
 m1:c1<=maxLen
 m2:c2<=maxLen
 b1:x.sizes.length * 8<=140737488351232
 b2:x.funs.length * 32<=140737488351232
def WrldR (w:World) (vs:List Value) (x:Wrld):Prop:=∃ A1 c1 A2 c2,vs=[.slice A1 x.sizes.length c1,.slice A2 x.funs.length c2]/\WrldAt w A1 c1 A2 c2 x
theorem WrldAt.on {w w':World} {A1 A2:Option Addr} {c1 c2:Nat} {x:Wrld} (h:WrldAt w A1 c1 A2 c2 x) (hb:Below w.heap.size w w'):WrldAt w' A1 c1 A2 c2 x :=
 ⟨h.sizes.on (IntR.lasts _) hb,h.funs.on FunValR.lasts hb,h.l1,h.l2,h.m1,h.m2,h.b1,h.b2⟩
theorem WrldR.lasts:Lasts WrldR:=fun _ _ _ _ hb ⟨A1,c1,A2,c2,h1,h2⟩=>⟨A1,c1,A2,c2,h1,h2.on hb⟩
end Dt
namespace Dt
open Go.RowKit
mutual
def Sexp.depth:Sexp->Int
 | .mk k _ l=>if k=3 then wrap64 (Sexp.depthL l+1) else 0
def Sexp.depthL:List Sexp->Int
 | []=>0
 | x :: r=>max (Sexp.depth x) (Sexp.depthL r)
end
theorem Sexp.depthL_snoc (l:List Sexp) (x:Sexp):Sexp.depthL (l ++ [x])=max (Sexp.depthL l) (Sexp.depth x):=by
 induction l with
 | nil=>simp [Sexp.depthL];omega
 | cons y r ih=>rw [List.cons_append,Sexp.depthL,ih,Sexp.depthL];omega
theorem Sexp.depth_I64:(x:Sexp)->I64 x.depth
 | .mk k _ l=>by
  unfold Sexp.depth
  split
  ·exact I64_wrap _
  ·exact⟨by omega,by omega⟩
theorem Sexp.depthL_I64:(l:List Sexp)->0<=Sexp.depthL l/\Sexp.depthL l<=9223372036854775807
 | []=>by simp [Sexp.depthL]
 | x :: r=>by
  have h1:=Sexp.depth_I64 x;have h2:=Sexp.depthL_I64 r;obtain ⟨a,b⟩:=h1;unfold Sexp.depthL
  omega
theorem Sexp.depth_eq (x:Sexp):x.depth=if x.kind=3 then wrap64 (Sexp.depthL x.l+1) else 0:=by cases x;rfl
def keyB (l:List UInt8):Bool:=(l.all fun c=>Lx.signI c.toNat) && !l.isEmpty && decide (l.length<=100)
def numB (l:List UInt8):Bool:=isNum l && decide (l.length<=100)
mutual
def Sexp.stands:Sexp->Bool
 | .mk k t l =>
  if k=0 then l.isEmpty && Lx.mayB (Lx.bs t)
  else if k=1 then l.isEmpty && numB (Lx.bs t)
  else if k=2 then l.isEmpty && keyB (Lx.bs t)
  else if k=3 then(Lx.bs t).isEmpty && Sexp.standsL l
  else false
def Sexp.standsL:List Sexp->Bool
 | []=>true
 | x :: r=>Sexp.stands x && Sexp.standsL r
end
theorem Sexp.stands_eq (x:Sexp):x.stands=if x.kind=0 then x.l.isEmpty && Lx.mayB (Lx.bs x.text) else if x.kind=1 then x.l.isEmpty && numB (Lx.bs x.text) else if x.kind=2 then x.l.isEmpty && keyB (Lx.bs x.text) else if x.kind=3 then(Lx.bs x.text).isEmpty && Sexp.standsL x.l else false:=by
 cases x;unfold Sexp.stands;rfl
theorem Sexp.standsL_all (l:List Sexp):Sexp.standsL l=l.all Sexp.stands:=by
 induction l with
 | nil=>rfl
 | cons x r ih=>rw [Sexp.standsL,ih];rfl
def Sexp.may (x:Sexp):Bool:=decide (x.depth<=60) && x.stands
theorem Sexp.mem_lt {x y:Sexp} (h:y ∈ x.l):SizeOf.sizeOf y < SizeOf.sizeOf x:=by
 cases x with
 | mk k t l =>
  have:=List.sizeOf_lt_of_mem h;simp only [Sexp.l] at this;simp only [Sexp.mk.sizeOf_spec]
  omega
def skipL:Bool->List UInt8->List UInt8
 | _,[]=>[]
 | true,c :: r=>if(c.toNat:Int)=10 then skipL false r else skipL true r
 | false,c :: r=>if Lx.whiteI c.toNat then skipL false r else if(c.toNat:Int)=59 then skipL true r else c :: r
theorem skipL_suffix:∀ (b:Bool) (l:List UInt8),skipL b l <:+ l
 | _,[]=>by unfold skipL;exact List.suffix_refl _
 | true,c :: r=>by
  unfold skipL
  split
  ·exact(skipL_suffix false r).trans (List.suffix_cons c r)
  ·exact(skipL_suffix true r).trans (List.suffix_cons c r)
 | false,c :: r=>by
  unfold skipL
  split
  ·exact(skipL_suffix false r).trans (List.suffix_cons c r)
  ·split
   ·exact(skipL_suffix true r).trans (List.suffix_cons c r)
   ·exact List.suffix_refl _
def quotedL:List UInt8->Option (List UInt8 × List UInt8)
 | []=>none
 | c :: r=>if(c.toNat:Int)=124 then some ([],r) else if Lx.insideI c.toNat then(quotedL r).map fun p=>(c :: p.1,p.2) else none
theorem quotedL_split:∀ {l:List UInt8} {n t:List UInt8},quotedL l=some (n,t)->l=n ++ 124 :: t/\(n.all fun c=>Lx.insideI c.toNat)=true
 | [],n,t,h=>by simp [quotedL] at h
 | c :: r,n,t,h=>by
  unfold quotedL at h
  split at h
  ·rename_i hc
   simp only [Option.some.injEq,Prod.mk.injEq] at h;obtain ⟨rfl,rfl⟩:=h;have:c=124:=by apply UInt8.toNat_inj.1;show c.toNat=124;omega
   subst this;exact⟨rfl,rfl⟩
  ·split at h
   ·rename_i hin
    cases hq:quotedL r with
    | none=>rw [hq] at h;simp at h
    | some p =>
     rw [hq] at h;simp only [Option.map_some,Option.some.injEq,Prod.mk.injEq] at h;obtain ⟨rfl,rfl⟩:=h;obtain ⟨h1,h2⟩:=quotedL_split (n:=p.1) (t:=p.2) hq;exact⟨by rw [List.cons_append,← h1],by rw [List.all_cons,hin,h2];rfl⟩
   ·cases h
theorem quotedL_make:∀ {n t:List UInt8},(n.all fun c=>Lx.insideI c.toNat)=true->quotedL (n ++ 124 :: t)=some (n,t)
 | [],t,_=>by simp [quotedL]
 | c :: n,t,h=>by
  rw [List.all_cons,Bool.and_eq_true] at h;have ih:=quotedL_make (n:=n) (t:=t) h.2
  have hc:¬ (c.toNat:Int)=124:=by
   have:=h.1;simp [Lx.insideI] at this
   omega
  rw [List.cons_append,quotedL,if_neg hc,if_pos h.1,ih]
  rfl
def sgn (c:UInt8):Bool:=Lx.signI c.toNat
inductive Tk where
 | none
 | bad
 | tok (k:Int) (t r:List UInt8)
def nextL:List UInt8->Tk
 | []=>.none
 | c :: r =>
  if(c.toNat:Int)=40 then .tok 0 [] r
  else if(c.toNat:Int)=41 then .tok 1 [] r
  else if(c.toNat:Int)=124 then match quotedL r with
   | some p=>if p.1.length<=100 then .tok 2 p.1 p.2 else .bad
   | .none=>.bad
  else if(c.toNat:Int)=58 then(if(r.takeWhile sgn).length=0\/100 < (r.takeWhile sgn).length then .bad else .tok 4 (r.takeWhile sgn) (r.dropWhile sgn))
  else if((c :: r).takeWhile sgn).length=0\/100 < ((c :: r).takeWhile sgn).length then .bad
  else if Lx.digitI c.toNat then(if isNum ((c :: r).takeWhile sgn) then .tok 3 ((c :: r).takeWhile sgn) ((c :: r).dropWhile sgn) else .bad)
  else .tok 2 ((c :: r).takeWhile sgn) ((c :: r).dropWhile sgn)
theorem nextL_cons (c:UInt8) (r:List UInt8):nextL (c :: r) =
  if(c.toNat:Int)=40 then .tok 0 [] r
  else if(c.toNat:Int)=41 then .tok 1 [] r
  else if(c.toNat:Int)=124 then match quotedL r with
   | some p=>if p.1.length<=100 then .tok 2 p.1 p.2 else .bad
   | .none=>.bad
  else if(c.toNat:Int)=58 then(if(r.takeWhile sgn).length=0\/100 < (r.takeWhile sgn).length then .bad else .tok 4 (r.takeWhile sgn) (r.dropWhile sgn))
  else if((c :: r).takeWhile sgn).length=0\/100 < ((c :: r).takeWhile sgn).length then .bad
  else if Lx.digitI c.toNat then(if isNum ((c :: r).takeWhile sgn) then .tok 3 ((c :: r).takeWhile sgn) ((c :: r).dropWhile sgn) else .bad)
  else .tok 2 ((c :: r).takeWhile sgn) ((c :: r).dropWhile sgn):=rfl
def stopL:List UInt8->Prop
 | []=>True
 | c :: _=>sgn c=false
theorem takeWhile_stop {t r:List UInt8} (ht:t.all sgn=true) (hr:stopL r):(t ++ r).takeWhile sgn=t/\(t ++ r).dropWhile sgn=r:=by
 induction t with
 | nil =>
  cases r with
  | nil=>exact⟨rfl,rfl⟩
  | cons c r =>
   have hr':sgn c=false:=hr;simp [hr']
 | cons c t ih =>
  rw [List.all_cons,Bool.and_eq_true] at ht;obtain ⟨h1,h2⟩:=ih ht.2;simp [ht.1,h1,h2]
inductive Rd:List UInt8->Sexp->List UInt8->Prop
 | name {l t r:List UInt8} {s:ByteArray} (h:nextL (skipL false l)=.tok 2 t r) (hs:Lx.bs s=t):Rd l (.mk 0 s []) r
 | num {l t r:List UInt8} {s:ByteArray} (h:nextL (skipL false l)=.tok 3 t r) (hs:Lx.bs s=t):Rd l (.mk 1 s []) r
 | key {l t r:List UInt8} {s:ByteArray} (h:nextL (skipL false l)=.tok 4 t r) (hs:Lx.bs s=t):Rd l (.mk 2 s []) r
 | list {l r rest:List UInt8} {xs:List Sexp} (f:Nat->List UInt8) (h:nextL (skipL false l)=.tok 0 [] r) (h0:f 0=r)
   (hc:∀ i,i < xs.length->∀ t q,nextL (skipL false (f i))≠.tok 1 t q) (hx:∀ i x,xs[i]?=some x->Rd (f i) x (f (i+1))) (hn:nextL (skipL false (f xs.length))=.tok 1 [] rest):Rd l (.mk 3 { data:=#[] } xs) rest
theorem Rd.skip {l m r:List UInt8} {x:Sexp} (h:Rd l x r) (e:skipL false l=skipL false m):Rd m x r:=by
 cases h with
 | name h hs=>exact .name (e ▸ h) hs
 | num h hs=>exact .num (e ▸ h) hs
 | key h hs=>exact .key (e ▸ h) hs
 | list f h h0 hc hx hn=>exact .list f (e ▸ h) h0 hc hx hn
mutual
def Sexp.textL:Sexp->List UInt8
 | .mk k t l=>if k=0 then Lx.quoteL (Lx.bs t) else if k=2 then 58 :: Lx.bs t else if k=3 then 40 :: (Sexp.textsL l ++ [41]) else Lx.bs t
def Sexp.textsL:List Sexp->List UInt8
 | []=>[]
 | x :: r=>Sexp.textL x ++ Sexp.restsL r
def Sexp.restsL:List Sexp->List UInt8
 | []=>[]
 | x :: r=>32 :: (Sexp.textL x ++ Sexp.restsL r)
end
theorem Sexp.textL_eq (x:Sexp):x.textL=if x.kind=0 then Lx.quoteL (Lx.bs x.text) else if x.kind=2 then 58 :: Lx.bs x.text else if x.kind=3 then 40 :: (Sexp.textsL x.l ++ [41]) else Lx.bs x.text:=by
 cases x;unfold Sexp.textL;rfl
def HeadOk (l:List UInt8):Prop:=∃ c r,l=c :: r/\Lx.whiteI c.toNat=false/\(c.toNat:Int)≠59/\(c.toNat:Int)≠41
theorem HeadOk.append {l m:List UInt8} (h:HeadOk l):HeadOk (l ++ m):=by
 obtain ⟨c,r,rfl,h⟩:=h;exact⟨c,r ++ m,rfl,h⟩
theorem HeadOk.skip {l:List UInt8} (h:HeadOk l):skipL false l=l:=by
 obtain ⟨c,r,rfl,h1,h2,_⟩:=h;rw [skipL,if_neg (by rw [h1];simp),if_neg h2]
theorem HeadOk.notClose {l:List UInt8} (h:HeadOk l) (t q:List UInt8):nextL l≠.tok 1 t q:=by
 obtain ⟨c,r,rfl,_,_,h3⟩:=h;rw [nextL_cons];rw [if_neg h3]
 split
 ·simp
 ·split
  ·split
   ·split <;> simp
   ·simp
  ·split
   ·split <;> simp
   ·split
    ·simp
    ·split
     ·split <;> simp
     ·simp
theorem sgn_head {c:UInt8} (h:sgn c=true):Lx.whiteI c.toNat=false/\(c.toNat:Int)≠59/\(c.toNat:Int)≠41/\(c.toNat:Int)≠40/\(c.toNat:Int)≠124/\(c.toNat:Int)≠58:=by
 simp [sgn,Lx.signI] at h;refine⟨?_,?_,?_,?_,?_,?_⟩
 ·simp [Lx.whiteI];omega
 all_goals omega
theorem headOk_signs {t:List UInt8} (h:t.all sgn=true) (hne:t≠[]):HeadOk t:=by
 cases t with
 | nil=>exact absurd rfl hne
 | cons c r =>
  rw [List.all_cons,Bool.and_eq_true] at h;obtain ⟨h1,h2,h3,_⟩:=sgn_head h.1;exact⟨c,r,rfl,h1,h2,h3⟩
theorem res_plainish:∀ t ∈ Lx.resL,t.all sgn=true/\t≠[]/\t.length<=100/\Lx.digitI (t.getD 0 0).toNat=false:=by
 decide +kernel
theorem quote_cases (t:List UInt8) (hm:Lx.mayB t=true):(Lx.quoteL t=t/\t.all sgn=true/\t≠[]/\t.length<=100/\Lx.digitI (t.getD 0 0).toNat=false)\/(Lx.quoteL t=124 :: (t ++ [124])/\t.length<=100/\(t.all fun c=>Lx.insideI c.toNat)=true):=by
 unfold Lx.quoteL
 by_cases hr:Lx.resB t=true
 ·left
  have:=res_plainish t (by simpa [Lx.resB] using hr);rw [if_pos (by rw [hr];simp)];exact⟨rfl,this⟩
 ·by_cases hp:Lx.plainB t=true
  ·left
   rw [if_pos (by rw [hp];simp)];unfold Lx.plainB at hp;simp only [Bool.and_eq_true,Bool.not_eq_true',decide_eq_true_eq] at hp;refine⟨rfl,hp.1.1.2,?_,hp.1.1.1.2,hp.1.2⟩;intro h;rw [h] at hp;simp at hp
  ·right
   rw [if_neg (by simp [hr,hp])];unfold Lx.mayB at hm;simp only [Bool.and_eq_true,decide_eq_true_eq] at hm;exact⟨rfl,hm.1,hm.2⟩
theorem next_signs {t r:List UInt8} (ht:t.all sgn=true) (hne:t≠[]) (hl:t.length<=100) (hr:stopL r) :
  nextL (t ++ r)=if Lx.digitI (t.getD 0 0).toNat then(if isNum t then .tok 3 t r else .bad) else .tok 2 t r:=by
 obtain ⟨h1,h2⟩:=takeWhile_stop ht hr
 cases t with
 | nil=>exact absurd rfl hne
 | cons c t =>
  rw [List.cons_append] at h1 h2 ⊢;rw [List.all_cons,Bool.and_eq_true] at ht;obtain ⟨_,_,a1,a2,a3,a4⟩:=sgn_head ht.1;rw [nextL_cons];rw [if_neg a2,if_neg a1,if_neg a3,if_neg a4,h1,h2,if_neg (by simp at hl ⊢;omega)]
  rfl
theorem next_sym {t r:List UInt8} (hm:Lx.mayB t=true) (hr:stopL r):nextL (Lx.quoteL t ++ r)=.tok 2 t r/\HeadOk (Lx.quoteL t):=by
 rcases quote_cases t hm with⟨e,h1,h2,h3,h4⟩ | ⟨e,h1,h2⟩
 ·rw [e,next_signs h1 h2 h3 hr,if_neg (by rw [h4];simp)];exact⟨rfl,headOk_signs h1 h2⟩
 ·rw [e];refine⟨?_,124,t ++ [124],rfl,by decide,by decide,by decide⟩;have:(124 :: (t ++ [124])) ++ r=124 :: (t ++ 124 :: r):=by simp
  rw [this];rw [nextL_cons];rw [if_neg (by decide),if_neg (by decide),if_pos (by decide),quotedL_make h2];simp only;rw [if_pos h1]
theorem dig_sgn {c:UInt8} (h:isDig c=true):sgn c=true/\Lx.digitI c.toNat=true:=by
 simp [isDig] at h;simp [sgn,Lx.signI,Lx.digitI]
 omega
theorem next_num {t r:List UInt8} (hm:numB t=true) (hr:stopL r):nextL (t ++ r)=.tok 3 t r/\HeadOk t:=by
 unfold numB at hm;simp only [Bool.and_eq_true,decide_eq_true_eq] at hm;obtain ⟨hn,hl⟩:=hm;have hn':=hn;unfold isNum at hn;simp only [Bool.and_eq_true,Bool.not_eq_true',List.isEmpty_eq_false_iff] at hn
 have hs:t.all sgn=true:=by
  rw [List.all_eq_true];intro c hc;exact(dig_sgn (List.all_eq_true.1 hn.2 c hc)).1
 have hd:Lx.digitI (t.getD 0 0).toNat=true:=by
  cases t with
  | nil=>exact absurd rfl hn.1.1
  | cons c t=>exact(dig_sgn (List.all_eq_true.1 hn.2 c (by simp))).2
 rw [next_signs hs hn.1.1 hl hr,if_pos hd,if_pos hn'];exact⟨rfl,headOk_signs hs hn.1.1⟩
theorem next_key {t r:List UInt8} (hm:keyB t=true) (hr:stopL r):nextL (58 :: t ++ r)=.tok 4 t r/\HeadOk (58 :: t):=by
 unfold keyB at hm;simp only [Bool.and_eq_true,Bool.not_eq_true',List.isEmpty_eq_false_iff,decide_eq_true_eq] at hm;have hs:t.all sgn=true:=hm.1.1;obtain ⟨h1,h2⟩:=takeWhile_stop hs hr;refine⟨?_,58,t,rfl,by decide,by decide,by decide⟩;rw [List.cons_append];rw [nextL_cons];rw [if_neg (by decide),if_neg (by decide),if_neg (by decide),if_pos (by decide),h1,h2,if_neg];have:=List.length_pos_iff.2 hm.1.2
 omega
theorem stop_rests (l:List Sexp) (r:List UInt8):stopL (Sexp.restsL l ++ 41 :: r):=by
 cases l with
 | nil=>rw [Sexp.restsL];show sgn 41=false;decide
 | cons x l=>rw [Sexp.restsL];show sgn 32=false;decide
def leftL:List Sexp->Bool->List UInt8->Nat->List UInt8
 | l,true,r,0=>Sexp.textsL l ++ 41 :: r
 | l,false,r,0=>Sexp.restsL l ++ 41 :: r
 | [],_,r,_+1=>r
 | _ :: l,_,r,i+1=>leftL l false r i
theorem leftL_end:∀ (l:List Sexp) (b:Bool) (r:List UInt8),leftL l b r l.length=41 :: r
 | [],true,r=>by simp [leftL,Sexp.textsL]
 | [],false,r=>by simp [leftL,Sexp.restsL]
 | x :: l,b,r=>by rw [List.length_cons,leftL];exact leftL_end l false r
theorem head_text {x:Sexp} (h:x.stands=true):HeadOk x.textL:=by
 cases x with
 | mk k t l =>
  unfold Sexp.stands at h;unfold Sexp.textL
  by_cases h0:k=0
  ·rw [if_pos h0] at h ⊢;simp only [Bool.and_eq_true] at h;exact(next_sym (r:=[]) h.2 trivial).2
  ·rw [if_neg h0] at h ⊢
   by_cases h1:k=1
   ·rw [if_pos h1] at h;simp only [Bool.and_eq_true] at h;rw [if_neg (by omega),if_neg (by omega)];exact(next_num (r:=[]) h.2 trivial).2
   ·rw [if_neg h1] at h
    by_cases h2:k=2
    ·rw [if_pos h2] at h ⊢;simp only [Bool.and_eq_true] at h;exact(next_key (r:=[]) h.2 trivial).2
    ·rw [if_neg h2] at h ⊢
     by_cases h3:k=3
     ·rw [if_pos h3] at ⊢;exact⟨40,_,rfl,by decide,by decide,by decide⟩
     ·rw [if_neg h3] at h;cases h
mutual
theorem rd_text:(x:Sexp)->x.stands=true->∀ r,stopL r->Rd (x.textL ++ r) x r
 | .mk k t l,h,r,hr=>by
  have hh:=(head_text h).append (m:=r);have hsk:=hh.skip;unfold Sexp.stands at h;unfold Sexp.textL at hsk ⊢
  by_cases h0:k=0
  ·subst h0;simp only [if_true,Bool.and_eq_true,List.isEmpty_iff] at h hsk ⊢;obtain ⟨rfl,h⟩:=h;exact .name (by rw [hsk];exact(next_sym h hr).1) rfl
  ·rw [if_neg h0] at h hsk ⊢
   by_cases h1:k=1
   ·subst h1;simp only [if_true,Bool.and_eq_true,List.isEmpty_iff] at h;rw [if_neg (by decide),if_neg (by decide)] at hsk ⊢;obtain ⟨rfl,h⟩:=h;exact .num (by rw [hsk];exact(next_num h hr).1) rfl
   ·rw [if_neg h1] at h
    by_cases h2:k=2
    ·subst h2;simp only [if_true,Bool.and_eq_true,List.isEmpty_iff] at h hsk ⊢;obtain ⟨rfl,h⟩:=h;exact .key (by rw [hsk];exact(next_key h hr).1) rfl
    ·rw [if_neg h2] at h hsk ⊢
     by_cases h3:k=3
     ·subst h3;simp only [if_true,Bool.and_eq_true,List.isEmpty_iff] at h hsk ⊢;obtain ⟨ht,h⟩:=h
      have:t={ data:=#[] }:=by
       cases t with | mk d=>unfold Lx.bs at ht;congr 1;exact Array.toList_inj.1 ht
      subst this;have e:(40 :: (Sexp.textsL l ++ [41])) ++ r=40 :: (Sexp.textsL l ++ 41 :: r):=by simp
      rw [e] at hsk ⊢;refine .list (leftL l true r) (r:=Sexp.textsL l ++ 41 :: r) (by rw [hsk,nextL_cons,if_pos (by decide)]) (by cases l <;> rfl) (fun i hi=>(rd_list l h true r i _ (gqe hi)).1) (fun i x hx=>(rd_list l h true r i x hx).2) ?_
      rw [leftL_end,skipL,if_neg (by decide),if_neg (by decide)];rw [nextL_cons];rw [if_neg (by decide),if_pos (by decide)]
     ·rw [if_neg h3] at h;cases h
theorem rd_list:(l:List Sexp)->Sexp.standsL l=true->∀ (b:Bool) (r:List UInt8),∀ i x,l[i]?=some x->(∀ t q,nextL (skipL false (leftL l b r i))≠.tok 1 t q)/\Rd (leftL l b r i) x (leftL l b r (i+1))
 | [],_,b,r=>fun i x hx=>by simp at hx
 | y :: l,h,b,r=>fun i x hx=>by
  rw [Sexp.standsL,Bool.and_eq_true] at h
  cases i with
  | succ i =>
   rw [List.getElem?_cons_succ] at hx;have:=rd_list l h.2 false r i x hx;rw [leftL,leftL];exact this
  | zero =>
   rw [List.getElem?_cons_zero] at hx;have hy:=head_text h.1;have hrd:=rd_text y h.1 (Sexp.restsL l ++ 41 :: r) (stop_rests l r);obtain rfl:y=x:=Option.some.inj hx;have e1:leftL (y :: l) b r 1=Sexp.restsL l ++ 41 :: r:=by rw [leftL];cases l <;> simp [leftL]
   cases b with
   | true =>
    have e0:leftL (y :: l) true r 0=y.textL ++ (Sexp.restsL l ++ 41 :: r):=by rw [leftL,Sexp.textsL,List.append_assoc]
    rw [e1,e0];exact⟨fun t q=>by rw [hy.append.skip];exact hy.append.notClose t q,hrd⟩
   | false =>
    have e0:leftL (y :: l) false r 0=32 :: (y.textL ++ (Sexp.restsL l ++ 41 :: r)):=by rw [leftL,Sexp.restsL,List.cons_append,List.append_assoc]
    have es:skipL false (32 :: (y.textL ++ (Sexp.restsL l ++ 41 :: r)))=skipL false (y.textL ++ (Sexp.restsL l ++ 41 :: r)):=by
     conv=>lhs;unfold skipL
     rw [if_pos (by decide)]
    rw [e1,e0];exact⟨fun t q=>by rw [es,hy.append.skip];exact hy.append.notClose t q,hrd.skip es.symm⟩
end
theorem nextL_suffix {l:List UInt8} {k:Int} {t r:List UInt8} (h:nextL l=.tok k t r):r <:+ l/\r.length < l.length:=by
 cases l with
 | nil=>unfold nextL at h;cases h
 | cons c l =>
  have hd:∀ m:List UInt8,m.dropWhile sgn <:+ m:=fun m=>List.dropWhile_suffix _;rw [nextL_cons] at h
  split at h
  ·simp only [Tk.tok.injEq] at h;obtain ⟨_,_,rfl⟩:=h;exact⟨List.suffix_cons c l,by simp⟩
  ·split at h
   ·simp only [Tk.tok.injEq] at h;obtain ⟨_,_,rfl⟩:=h;exact⟨List.suffix_cons c l,by simp⟩
   ·split at h
    ·split at h
     ·rename_i p hq
      split at h
      ·simp only [Tk.tok.injEq] at h;obtain ⟨_,rfl,rfl⟩:=h;obtain ⟨e,_⟩:=quotedL_split (n:=p.1) (t:=p.2) hq;rw [e];exact⟨⟨c :: p.1 ++ [124],by simp⟩,by simp;omega⟩
      ·cases h
     ·cases h
    ·split at h
     ·split at h
      ·cases h
      ·simp only [Tk.tok.injEq] at h;obtain ⟨_,_,rfl⟩:=h;have:=(hd l);exact⟨this.trans (List.suffix_cons c l),by have:=this.length_le;simp;omega⟩
     ·split at h
      ·cases h
      ·rename_i hn
       have hs:=hd (c :: l)
       have hlen:((c :: l).dropWhile sgn).length < (c :: l).length:=by
        have e:=congrArg List.length (List.takeWhile_append_dropWhile (p:=sgn) (l:=c :: l));rw [List.length_append] at e
        omega
       split at h
       ·split at h
        ·simp only [Tk.tok.injEq] at h;obtain ⟨_,_,rfl⟩:=h;exact⟨hs,hlen⟩
        ·cases h
       ·simp only [Tk.tok.injEq] at h;obtain ⟨_,_,rfl⟩:=h;exact⟨hs,hlen⟩
theorem next_skip_suffix {l:List UInt8} {k:Int} {t r:List UInt8} (h:nextL (skipL false l)=.tok k t r):r <:+ l :=
 (nextL_suffix h).1.trans (skipL_suffix false l)
theorem Rd.suffix {l r:List UInt8} {x:Sexp} (h:Rd l x r):r <:+ l:=by
 induction h with
 | name h hs=>exact next_skip_suffix h
 | num h hs=>exact next_skip_suffix h
 | key h hs=>exact next_skip_suffix h
 | @list l r rest xs f h h0 hc hx hn ih =>
  have hstep:∀ k,k<=xs.length->f k <:+ r:=by
   intro k
   induction k with
   | zero=>intro _;rw [h0];exact List.suffix_refl _
   | succ k ihk=>intro hk;exact(ih k xs[k] (gqe (by omega))).trans (ihk (by omega))
  exact(next_skip_suffix hn).trans ((hstep _ nlq).trans (next_skip_suffix h))
theorem suffix_drop {l s:List UInt8} (h:l <:+ s):s.drop (s.length - l.length)=l:=by
 obtain ⟨p,rfl⟩:=h;rw [List.length_append,Nat.add_sub_cancel,List.drop_left]
theorem Rd.once {l r:List UInt8} {x:Sexp} (h:Rd l x r):∀ {y:Sexp} {q:List UInt8},Rd l y q->x=y/\r=q:=by
 induction h with
 | name h hs=>
  intro y q h2
  cases h2 with
  | name h' hs'=>rw [h] at h';simp only [Tk.tok.injEq,true_and] at h';obtain ⟨rfl,rfl⟩:=h';exact⟨by rw [Lx.bs_inj.1 (hs.trans hs'.symm)],rfl⟩
  | num h' hs'=>rw [h] at h';simp at h'
  | key h' hs'=>rw [h] at h';simp at h'
  | list f h' h0 hc hx hn=>rw [h] at h';simp at h'
 | num h hs=>
  intro y q h2
  cases h2 with
  | num h' hs'=>rw [h] at h';simp only [Tk.tok.injEq,true_and] at h';obtain ⟨rfl,rfl⟩:=h';exact⟨by rw [Lx.bs_inj.1 (hs.trans hs'.symm)],rfl⟩
  | name h' hs'=>rw [h] at h';simp at h'
  | key h' hs'=>rw [h] at h';simp at h'
  | list f h' h0 hc hx hn=>rw [h] at h';simp at h'
 | key h hs=>
  intro y q h2
  cases h2 with
  | key h' hs'=>rw [h] at h';simp only [Tk.tok.injEq,true_and] at h';obtain ⟨rfl,rfl⟩:=h';exact⟨by rw [Lx.bs_inj.1 (hs.trans hs'.symm)],rfl⟩
  | name h' hs'=>rw [h] at h';simp at h'
  | num h' hs'=>rw [h] at h';simp at h'
  | list f h' h0 hc hx hn=>rw [h] at h';simp at h'
 | @list l r rest xs f h h0 hc hx hn ih =>
  intro y q h2
  cases h2 with
  | key h' hs'=>rw [h] at h';simp at h'
  | name h' hs'=>rw [h] at h';simp at h'
  | num h' hs'=>rw [h] at h';simp at h'
  | @list _ r' _ ys f' h' h0' hc' hx' hn' =>
   rw [h] at h';simp only [Tk.tok.injEq,true_and] at h';subst h'
   have hf:∀ k,k<=xs.length->k<=ys.length->f k=f' k/\xs.take k=ys.take k:=by
    intro k
    induction k with
    | zero=>intro _ _;rw [h0,h0'];exact⟨rfl,rfl⟩
    | succ k ihk =>
     intro h1 h2;obtain ⟨e1,e2⟩:=ihk (by omega) (by omega);have a:=gqe (show k < ys.length by omega);have b:=gqe (show k < xs.length by omega);have hr:=hx' k _ a;rw [← e1] at hr;obtain ⟨p1,p2⟩:=ih k _ b hr;exact⟨p2,by rw [List.take_succ_eq_append_getElem (by omega),List.take_succ_eq_append_getElem (by omega),e2,p1]⟩
   have hl:xs.length=ys.length:=by
    rcases Nat.lt_trichotomy xs.length ys.length with g | g | g
    ·exact absurd ((hf _ nlq (by omega)).1 ▸ hn) (hc' _ g _ _)
    ·exact g
    ·exact absurd ((hf _ (by omega) nlq).1 ▸ hn') (hc _ g _ _)
   obtain ⟨e1,e2⟩:=hf xs.length nlq (by omega);rw [hl] at e2;rw [← hl,List.take_length,hl,List.take_length] at e2;rw [e1,hl] at hn;rw [hn] at hn';simp only [Tk.tok.injEq,true_and] at hn';exact⟨by rw [e2],hn'⟩
end Dt
namespace Dt
open Go.RowKit Go.ChangeShapes Go.WideShapes Go.Deep
theorem cI:Tryz.prog.cellsOf 3=1:=by kernel_rfl
theorem cI8:Tryz.prog.cellsOf 37=1:=by kernel_rfl
theorem cS:Tryz.prog.cellsOf 9=1:=by kernel_rfl
theorem cSx:Tryz.prog.cellsOf 40=3:=by kernel_rfl
theorem cLSx:Tryz.prog.cellsOf 38=1:=by kernel_rfl
theorem bSx:Tryz.prog.bytesOf 40=48:=by kernel_rfl
theorem fSx:∃ f0 f1 f2:Field,Tryz.prog.underlying 40=some (.struct #[f0,f1,f2])/\f0.offset=0/\f1.offset=1/\f2.offset=2/\f0.type=37/\f1.type=9/\f2.type=38 :=
 ⟨_,_,_,Tryz.underlying40,rfl,rfl,rfl,rfl,rfl,rfl⟩
theorem list3 {α:Type} {l:List α} (h:l.length=3):∃ a b c,l=[a,b,c]:=by
 match l,h with
 | [a,b,c],_=>exact⟨a,b,c,rfl⟩
theorem list2 {α:Type} {l:List α} (h:l.length=2):∃ a b,l=[a,b]:=by
 match l,h with
 | [a,b],_=>exact⟨a,b,rfl⟩
theorem list4 {α:Type} {l:List α} (h:l.length=4):∃ a b c d,l=[a,b,c,d]:=by
 match l,h with
 | [a,b,c,d],_=>exact⟨a,b,c,d,rfl⟩
theorem list6 {α:Type} {l:List α} (h:l.length=6):∃ a b c d e f,l=[a,b,c,d,e,f]:=by
 match l,h with
 | [a,b,c,d,e,f],_=>exact⟨a,b,c,d,e,f,rfl⟩
section
variable {H:Type} {enc:TypeId × Value->H}
theorem opens_sexp (fuel:Nat):Opens H enc Tryz.prog 40 SexpR fuel:=by
 induction fuel using Nat.strongRecOn with
 | _ fuel ih =>
  intro W cs y h hf;obtain ⟨f0,f1,f2,hu,o0,o1,o2,t0,t1,t2⟩:=fSx;have hlen:=struct_len hu h;rw [cSx] at hlen;obtain ⟨a,b,c,rfl⟩:=list3 hlen;obtain ⟨k,hk⟩:=field_of hu h hf 0 f0 rfl (fun fu _=>by rw [t0];exact opens_int Tryz.underlying37 fu);rw [o0,t0,cI8] at hk;obtain ⟨hk1,hk2⟩:=hk;obtain ⟨t,ht⟩:=field_of hu h hf 1 f1 rfl (fun fu _=>by rw [t1];exact opens_str Tryz.underlying9 fu);rw [o1,t1,cS] at ht;obtain ⟨ht1,ht2⟩:=ht;obtain ⟨l,hl⟩:=field_of hu h hf 2 f2 rfl (fun fu hfu=>by rw [t2];exact opens_slice Tryz.underlying38 cSx bSx (by omega) (fun fu' hfu'=>ih fu' (by omega)));rw [o2,t2,cLSx] at hl;obtain ⟨A,cap,hl1,hl2,hl3,hl4,hl5⟩:=hl;simp at hk1 ht1 hl1;subst hk1 ht1 hl1;exact⟨.mk k t l,SexpR.make hl2 hl3 hl4 ht2 hl5 hk2⟩
end
end Dt
namespace Dt
open Go.RowKit Go.ChangeShapes Go.WideShapes Go.Deep
section
variable {H:Type} {enc:TypeId × Value->H}
theorem cFun:Tryz.prog.cellsOf 108=6:=by kernel_rfl
theorem cA3:Tryz.prog.cellsOf 47=3:=by kernel_rfl
theorem fFun:∃ f0 f1 f2 f3:Field,Tryz.prog.underlying 108=some (.struct #[f0,f1,f2,f3])/\f0.offset=0/\f1.offset=1/\f2.offset=2/\f3.offset=5/\f0.type=9/\f1.type=3/\f2.type=47/\f3.type=3 :=
 ⟨_,_,_,_,Tryz.underlying108,rfl,rfl,rfl,rfl,rfl,rfl,rfl,rfl⟩
def A3R (_:World) (vs:List Value) (x:Int × Int × Int):Prop:=vs=[.int .i64 x.1,.int .i64 x.2.1,.int .i64 x.2.2]/\I64 x.1/\I64 x.2.1/\I64 x.2.2
theorem opens_a3 (fuel:Nat):Opens H enc Tryz.prog 47 A3R fuel:=by
 intro W cs y h hf;have hlen:=(DataW.trod_array Tryz.underlying47 h).choose_spec.choose_spec.2.2.1;rw [cA3] at hlen;obtain ⟨a,b,c,rfl⟩:=list3 hlen;obtain ⟨x,hx⟩:=array_of Tryz.underlying47 h hf 1 cI 0 (by omega) (fun fu _=>opens_int Tryz.underlying3 fu);obtain ⟨y,hy⟩:=array_of Tryz.underlying47 h hf 1 cI 1 (by omega) (fun fu _=>opens_int Tryz.underlying3 fu);obtain ⟨z,hz⟩:=array_of Tryz.underlying47 h hf 1 cI 2 (by omega) (fun fu _=>opens_int Tryz.underlying3 fu);obtain ⟨hx1,hx2⟩:=hx.i64;obtain ⟨hy1,hy2⟩:=hy.i64;obtain ⟨hz1,hz2⟩:=hz.i64;simp at hx1 hy1 hz1;subst hx1 hy1 hz1;exact⟨⟨x,y,z⟩,rfl,hx2,hy2,hz2⟩
theorem opens_fun (fuel:Nat):Opens H enc Tryz.prog 108 FunR fuel:=by
 intro W cs y h hf;obtain ⟨f0,f1,f2,f3,hu,o0,o1,o2,o3,t0,t1,t2,t3⟩:=fFun;have hlen:=struct_len hu h;rw [cFun] at hlen;obtain ⟨a,b,c,d,e,f,rfl⟩:=list6 hlen;obtain ⟨n,hn⟩:=field_of hu h hf 0 f0 rfl (fun fu _=>by rw [t0];exact opens_str Tryz.underlying9 fu);rw [o0,t0,cS] at hn;obtain ⟨k,hk⟩:=field_of hu h hf 1 f1 rfl (fun fu _=>by rw [t1];exact opens_int Tryz.underlying3 fu);rw [o1,t1,cI] at hk;obtain ⟨⟨x0,x1,x2⟩,hx⟩:=field_of hu h hf 2 f2 rfl (fun fu _=>by rw [t2];exact opens_a3 fu);rw [o2,t2,cA3] at hx;obtain ⟨r,hr⟩:=field_of hu h hf 3 f3 rfl (fun fu _=>by rw [t3];exact opens_int Tryz.underlying3 fu);rw [o3,t3,cI] at hr;obtain ⟨hn1,hn2⟩:=hn;obtain ⟨hk1,hk2⟩:=hk.i64;obtain ⟨hx1,hx2,hx3,hx4⟩:=hx;obtain ⟨hr1,hr2⟩:=hr.i64;simp at hn1 hk1 hx1 hr1;obtain ⟨hxa,hxb,hxc⟩:=hx1;subst hn1 hk1 hxa hxb hxc hr1;exact⟨⟨n,k,x0,x1,x2,r⟩,rfl,hn2,hk2,hx2,hx3,hx4,hr2⟩
theorem cParam:Tryz.prog.cellsOf 119=2:=by kernel_rfl
theorem bParam:Tryz.prog.bytesOf 119=24:=by kernel_rfl
theorem fParam:∃ f0 f1:Field,Tryz.prog.underlying 119=some (.struct #[f0,f1])/\f0.offset=0/\f1.offset=1/\f0.type=9/\f1.type=3:=⟨_,_,Tryz.underlying119,rfl,rfl,rfl,rfl⟩
theorem opens_param (fuel:Nat):Opens H enc Tryz.prog 119 ParamR fuel:=by
 intro W cs y h hf;obtain ⟨f0,f1,hu,o0,o1,t0,t1⟩:=fParam;have hlen:=struct_len hu h;rw [cParam] at hlen;obtain ⟨a,b,rfl⟩:=list2 hlen;obtain ⟨n,hn⟩:=field_of hu h hf 0 f0 rfl (fun fu _=>by rw [t0];exact opens_str Tryz.underlying9 fu);rw [o0,t0,cS] at hn;obtain ⟨k,hk⟩:=field_of hu h hf 1 f1 rfl (fun fu _=>by rw [t1];exact opens_int Tryz.underlying3 fu);rw [o1,t1,cI] at hk;obtain ⟨hn1,hn2⟩:=hn;obtain ⟨hk1,hk2⟩:=hk.i64;simp at hn1 hk1;subst hn1 hk1;exact⟨⟨n,k⟩,rfl,hn2,hk2⟩
theorem cMacro:Tryz.prog.cellsOf 58=6:=by kernel_rfl
theorem bMacro:Tryz.prog.bytesOf 58=96:=by kernel_rfl
theorem bFun:Tryz.prog.bytesOf 108=56:=by kernel_rfl
theorem bS:Tryz.prog.bytesOf 9=16:=by kernel_rfl
theorem cLParam:Tryz.prog.cellsOf 56=1:=by kernel_rfl
theorem cLS:Tryz.prog.cellsOf 22=1:=by kernel_rfl
theorem cLFun:Tryz.prog.cellsOf 23=1:=by kernel_rfl
theorem cLMacro:Tryz.prog.cellsOf 24=1:=by kernel_rfl
theorem cSig:Tryz.prog.cellsOf 26=3:=by kernel_rfl
theorem fMacro:∃ f0 f1 f2 f3:Field,Tryz.prog.underlying 58=some (.struct #[f0,f1,f2,f3])/\f0.offset=0/\f1.offset=1/\f2.offset=2/\f3.offset=3/\f0.type=9/\f1.type=56/\f2.type=3/\f3.type=40 :=
 ⟨_,_,_,_,Tryz.underlying58,rfl,rfl,rfl,rfl,rfl,rfl,rfl,rfl⟩
theorem fSig:∃ f0 f1 f2:Field,Tryz.prog.underlying 26=some (.struct #[f0,f1,f2])/\f0.offset=0/\f1.offset=1/\f2.offset=2/\f0.type=22/\f1.type=23/\f2.type=24 :=
 ⟨_,_,_,Tryz.underlying26,rfl,rfl,rfl,rfl,rfl,rfl⟩
theorem opens_macro (fuel:Nat):Opens H enc Tryz.prog 58 MacroR fuel:=by
 intro W cs y h hf;obtain ⟨f0,f1,f2,f3,hu,o0,o1,o2,o3,t0,t1,t2,t3⟩:=fMacro;have hlen:=struct_len hu h;rw [cMacro] at hlen;obtain ⟨a,b,c,d,e,f,rfl⟩:=list6 hlen;obtain ⟨n,hn⟩:=field_of hu h hf 0 f0 rfl (fun fu _=>by rw [t0];exact opens_str Tryz.underlying9 fu);rw [o0,t0,cS] at hn;obtain ⟨ps,hp⟩:=field_of hu h hf 1 f1 rfl (fun fu hfu=>by rw [t1];exact opens_slice Tryz.underlying56 cParam bParam (by omega) (fun fu' _=>opens_param fu'));rw [o1,t1,cLParam] at hp;obtain ⟨r,hr⟩:=field_of hu h hf 2 f2 rfl (fun fu _=>by rw [t2];exact opens_int Tryz.underlying3 fu);rw [o2,t2,cI] at hr;obtain ⟨x,hx⟩:=field_of hu h hf 3 f3 rfl (fun fu _=>by rw [t3];exact opens_sexp fu);rw [o3,t3,cSx] at hx;obtain ⟨hn1,hn2⟩:=hn;obtain ⟨A,cap,hp1,hp2,hp3,hp4,hp5⟩:=hp;obtain ⟨hr1,hr2⟩:=hr.i64;simp at hn1 hp1 hr1;subst hn1 hp1 hr1;exact⟨⟨n,ps,r,x⟩,A,cap,[d,e,f],rfl,hx,hp2,hp3,hp4,hn2,hr2⟩
theorem opens_sig (fuel:Nat):Opens H enc Tryz.prog 26 SigR fuel:=by
 intro W cs y h hf;obtain ⟨f0,f1,f2,hu,o0,o1,o2,t0,t1,t2⟩:=fSig;have hlen:=struct_len hu h;rw [cSig] at hlen;obtain ⟨a,b,c,rfl⟩:=list3 hlen;obtain ⟨s,hs⟩:=field_of hu h hf 0 f0 rfl (fun fu hfu=>by rw [t0];exact opens_slice Tryz.underlying22 cS bS (by omega) (fun fu' _=>opens_str Tryz.underlying9 fu'));rw [o0,t0,cLS] at hs;obtain ⟨fs,hfs⟩:=field_of hu h hf 1 f1 rfl (fun fu hfu=>by rw [t1];exact opens_slice Tryz.underlying23 cFun bFun (by omega) (fun fu' _=>opens_fun fu'));rw [o1,t1,cLFun] at hfs;obtain ⟨ms,hms⟩:=field_of hu h hf 2 f2 rfl (fun fu hfu=>by rw [t2];exact opens_slice Tryz.underlying24 cMacro bMacro (by omega) (fun fu' _=>opens_macro fu'));rw [o2,t2,cLMacro] at hms;obtain ⟨A1,c1,a1,a2,a3,a4,a5⟩:=hs;obtain ⟨A2,c2,b1,b2,b3,b4,b5⟩:=hfs;obtain ⟨A3,c3,d1,d2,d3,d4,d5⟩:=hms;simp at a1 b1 d1;subst a1 b1 d1;exact⟨⟨s,fs,ms⟩,A1,c1,A2,c2,A3,c3,rfl,⟨a2,b2,d2,a3,b3,d3,a4,b4,d4⟩⟩
theorem open_sig {W:World} {base:Nat} {v:Value} {d:DataW H} {ps:List MemPlace} (hval:Value.okWide Tryz.prog W .any base 26 v) (h:DataW.Trod enc Tryz.prog W 0 (fun _=>true) true 26 v d ps) (hf:Fits Tryz.prog 26 d) :
  ∃ g A1 c1 A2 c2 A3 c3,v=.agg #[.slice A1 g.sorts.length c1,.slice A2 g.funs.length c2,.slice A3 g.macros.length c3]/\SigAt W A1 c1 A2 c2 A3 c3 g:=by
 obtain ⟨f0,f1,f2,hu,_⟩:=fSig;obtain ⟨cs,rfl,hsz⟩:=okWide_struct hu hval;obtain ⟨fuel,ht⟩:=h;obtain ⟨g,A1,c1,A2,c2,A3,c3,e,hg⟩:=opens_sig fuel W _ _ ht hf;refine⟨g,A1,c1,A2,c2,A3,c3,?_,hg⟩;have e2:cs.toList=_:=e
 congr 1
 exact Array.toList_inj.1 e2
end
end Dt
namespace Dt
open Go.RowKit
theorem max_if (a b:Int):(if a < b then b else a)=max a b:=by split <;> omega
theorem sexp_cells {w:World} {A:Option Addr} {l:List Sexp} (h:Lies 3 SexpR w A l) {k:Nat} {y:Sexp} (hy:l[k]?=some y) :
  ∃ b o A' c',A=some ⟨b,o,none⟩/\b < w.heap.size/\w.cell? ⟨b,o+k * 3,none⟩=some (.int .i8 y.kind)/\w.cell? ⟨b,o+k * 3+1,none⟩=some (.string y.text)/\w.cell? ⟨b,o+k * 3+2,none⟩=some (.slice A' y.l.length c') /\
   SexpR w [.int .i8 y.kind,.string y.text,.slice A' y.l.length c'] y:=by
 obtain ⟨b,o,vs,hA,hb,_,hc,hr⟩:=h.at' hy;obtain ⟨A',c',e,_⟩:=hr.open';subst e;exact⟨b,o,A',c',hA,hb,hc 0 _ rfl,hc 1 _ rfl,hc 2 _ rfl,hr⟩
theorem depth_any:∀ (n:Nat) (x:Sexp),SizeOf.sizeOf x < n->∀ (w:World) (A:Option Addr) (c:Nat),SexpR w [.int .i8 x.kind,.string x.text,.slice A x.l.length c] x ->
  Calls Tryz.prog 32 #[.agg #[.int .i8 x.kind,.string x.text,.slice A x.l.length c]] w fun e w'=>e=.returned (.int .i64 x.depth)/\Below w.heap.size w w':=by
 intro n
 induction n with
 | zero=>intro x hx;omega
 | succ n ih =>
  intro x hx w A c hr;have IH:=kp ih;obtain ⟨A0,c0,e0,hl,hc,hcm,_,hlb,_⟩:=hr.open';simp only [List.cons.injEq,Value.slice.injEq,and_true,true_and] at e0;obtain ⟨rfl,rfl⟩:=e0;have HE:=kp (Sexp.depth_eq x)
  by_cases hk:x.kind=3
  ·replace HE:=kp (HE.out.trans (if_pos hk));have HL:=kp hl;have HX:=kp hx;have HM:=kp (fun y (hy:y ∈ x.l)=>Sexp.mem_lt hy);rw [hk];generalize x.l=l at *;generalize x.text=t at *;generalize x.depth=d at *;clear hl hr hk hx ih
   go_enter Tryz.func32,Tryz.ntmps32
   go_wp2_with fail
   have B0:=kp ((brq w).alloc nlq (.cells #[.int .i8 3,.string t,.slice A l.length c] 40));generalize w.alloc (.cells #[.int .i8 3,.string t,.slice A l.length c] 40)=w0 at *
   go_loopw [3,12] (fun v i wr=>∃ k:Nat,k<=l.length/\i=.int .i64 k/\v=.int .i64 (Sexp.depthL (l.take k))/\Below w.heap.size w wr) (fun _ i _=>l.length - (intOf i).toNat)
   case atStart=>exact⟨0,Nat.zero_le _,rfl,rfl,B0.out⟩
   case round =>
    obtain ⟨k,hk,rfl,rfl,hb⟩:=hrel;have HB:=kp hb;obtain ⟨d0,d1⟩:=Sexp.depthL_I64 (l.take k)
    by_cases hlt:k < l.length
    ·have hlt2:(k:Int) < (l.length:Int):=by omega
     have hy:=gqe hlt;have hym:=List.getElem_mem hlt;generalize l[k]=y at hy hym;obtain ⟨b,o,A',c',rfl,hbl,e0,e1,e2,hr⟩:=sexp_cells (HL.out.on SexpR.lasts hb) hy;have HY:=kp (fun W (hW:Below wr.heap.size wr W)=>IH.out y (by have h1:=HM.out y hym;have h2:=HX.out;omega) W A' c' (SexpR.lasts _ _ _ _ hW hr));have HT:=kp (show Sexp.depthL (l.take (k+1))=max (Sexp.depthL (l.take k)) y.depth by rw [List.take_add_one,hy];exact Sexp.depthL_snoc _ _);obtain ⟨f0,f1⟩:=Sexp.depth_I64 y;generalize Sexp.depthL (l.take k)=dl at *;clear hb hr hy hym;go_wp2_with fail
     refine(HY.out _ ((Below.refl _ _).alloc nlq _)).mono ?_;rintro e w2 ⟨rfl,hb2⟩;have HB2:=kp ((HB.out.alloc HB.out.size _).trans (hb2.mono (by have:=HB.out.size;simp;omega)));clear hb2;go_wp2_with fail
     go_roundw
     case rel=>exact⟨k+1,by omega,by go_num,by first | rw [HT.out,max_if] | rw [HT.out],HB2.out⟩
     case measure=>simp [intOf];omega
    ·obtain rfl:k=l.length:=by omega
     rw [List.take_length] at d0 d1 ⊢;go_wp2_with fail
     go_ret;exact⟨ret_int HE.out.symm,HB.out⟩
  ·replace HE:=kp (HE.out.trans (if_neg hk));have hk2:(x.kind == 3)=false:=beq_eq_false_iff_ne.2 hk
   go_enter Tryz.func32,Tryz.ntmps32
   go_wp2_with fail
   go_ret;exact⟨ret_int HE.out.symm,(brq w).alloc nlq _⟩
theorem box_cells (w:World) (a b c:Value) (t:TypeId):(w.alloc (.cells #[a,b,c] t)).cell? ⟨w.heap.size,0,none⟩=some a/\(w.alloc (.cells #[a,b,c] t)).cell? ⟨w.heap.size,1,none⟩=some b/\(w.alloc (.cells #[a,b,c] t)).cell? ⟨w.heap.size,2,none⟩=some c/\(w.alloc (.cells #[a,b,c] t)).heap.size=w.heap.size+1:=by
 refine⟨?_,?_,?_,by simp⟩ <;> rw [World.cell?_alloc_mark] <;> rfl
theorem rdepth_any:∀ (n:Nat) (x:Sexp),SizeOf.sizeOf x < n->∀ (w:World) (A:Option Addr) (c:Nat),SexpR w [.int .i8 x.kind,.string x.text,.slice A x.l.length c] x ->
  Calls Tryz.prog 27 #[.agg #[.int .i8 x.kind,.string x.text,.slice A x.l.length c]] w fun e w'=>e=.returned (.int .i64 x.depth)/\Below w.heap.size w w':=by
 intro n
 induction n with
 | zero=>intro x hx;omega
 | succ n ih =>
  intro x hx w A c hr;have IH:=kp ih;obtain ⟨A0,c0,e0,hl,hc,hcm,_,hlb,_⟩:=hr.open';simp only [List.cons.injEq,Value.slice.injEq,and_true,true_and] at e0;obtain ⟨rfl,rfl⟩:=e0;have HE:=kp (Sexp.depth_eq x)
  by_cases hk:x.kind=3
  ·replace HE:=kp (HE.out.trans (if_pos hk));have HX:=kp hx;have HM:=kp (fun y (hy:y ∈ x.l)=>Sexp.mem_lt hy);rw [hk];generalize x.l=l at *;generalize x.text=t at *;generalize x.depth=d at *;clear hr hk hx ih
   go_enter Tryz.func27,Tryz.ntmps27
   go_wp2_with fail
   obtain ⟨_,_,q2,z0⟩:=box_cells w (.int .i8 3) (.string t) (.slice A l.length c) 40;have B0:=kp ((brq w).alloc nlq (.cells #[.int .i8 3,.string t,.slice A l.length c] 40));have HL:=kp (hl.on SexpR.lasts B0.out);generalize w.alloc (.cells #[.int .i8 3,.string t,.slice A l.length c] 40)=w0 at *;clear hl
   go_loopw [3,4] (fun v i wr=>∃ k:Nat,k<=l.length/\i=.int .i64 k/\v=.int .i64 (Sexp.depthL (l.take k))/\Below w0.heap.size w0 wr) (fun _ i _=>l.length - (intOf i).toNat)
   case atStart=>exact⟨0,Nat.zero_le _,rfl,rfl,Below.refl _ _⟩
   case round =>
    obtain ⟨k,hk,rfl,rfl,hb⟩:=hrel;have HB:=kp hb;obtain ⟨d0,d1⟩:=Sexp.depthL_I64 (l.take k);have qr:=((bcell hb).1 w.heap.size 2 (by omega)).trans q2
    by_cases hlt:k < l.length
    ·have hlt2:(k:Int) < (l.length:Int):=by omega
     have hy:=gqe hlt;have hym:=List.getElem_mem hlt;generalize l[k]=y at hy hym;obtain ⟨b,o,A',c',rfl,hbl,e0,e1,e2,hr⟩:=sexp_cells (HL.out.on SexpR.lasts hb) hy;have HY:=kp (IH.out y (by have h1:=HM.out y hym;have h2:=HX.out;omega) wr A' c' hr);have HT:=kp (show Sexp.depthL (l.take (k+1))=max (Sexp.depthL (l.take k)) y.depth by rw [List.take_add_one,hy];exact Sexp.depthL_snoc _ _);obtain ⟨f0,f1⟩:=Sexp.depth_I64 y;generalize Sexp.depthL (l.take k)=dl at *;clear hb hr hy hym q2;go_wp2_with fail
     refine HY.out.mono ?_;rintro e w2 ⟨rfl,hb2⟩;have HB2:=kp (HB.out.trans (hb2.mono HB.out.size));clear hb2;go_wp2_with fail
     go_roundw
     case rel=>exact⟨k+1,by omega,by go_num,by first | rw [HT.out,max_if] | rw [HT.out],HB2.out⟩
     case measure=>simp [intOf];omega
    ·obtain rfl:k=l.length:=by omega
     rw [List.take_length] at d0 d1 ⊢;clear hb q2;go_wp2_with fail
     go_ret;exact⟨ret_int HE.out.symm,B0.out.trans (HB.out.mono (by omega))⟩
  ·replace HE:=kp (HE.out.trans (if_neg hk));have hk2:(x.kind == 3)=false:=beq_eq_false_iff_ne.2 hk
   go_enter Tryz.func27,Tryz.ntmps27
   go_wp2_with fail
   go_ret;exact⟨ret_int HE.out.symm,(brq w).alloc nlq _⟩
end Dt
section
open Go.RowKit
theorem put_any (d n:Int) (o:Bool) (bn bo:Nat) (w:World) (hd0:0<=d) (hd9:d<=9) (hn0:0<=n) (hn1:n<=4611686018427387904)
  (hn:w.cell? ⟨bn,0,none⟩=some (.int .i64 n)) (ho:w.cell? ⟨bo,0,none⟩=some (.bool o)) (fn:w.frozen? ⟨bn,0,none⟩=false) (fo:w.frozen? ⟨bo,0,none⟩=false) :
  Calls Tryz.prog 175 #[.int .i64 d,.pointer (some ⟨bn,0,none⟩),.pointer (some ⟨bo,0,none⟩)] w fun e w'=>e=.returned (.tuple #[]) /\
   w'=(if(4611686018427387904 - d) / 10 < n then w.setCell ⟨bo,0,none⟩ (.bool true) else w.setCell ⟨bn,0,none⟩ (.int .i64 (n * 10+d))):=by
 by_cases h:(4611686018427387904 - d) / 10 < n
 ·rw [if_pos h]
  go_enter Tryz.func175,Tryz.ntmps175
  go_wp2
  exact ret0 rfl rfl ⟨rfl,rfl⟩
 ·rw [if_neg h]
  go_enter Tryz.func175,Tryz.ntmps175
  go_wp2
  go_end0
  exact⟨rfl,rfl⟩
structure ParseAt (s:ByteArray) (w:World) (k:Nat) (wr:World):Prop where
 n:wr.heap[w.heap.size]?=some (.cells #[.int .i64 (putAll (0,false) (s.data.toList.take k)).1] 3 (0,0))
 o:wr.heap[w.heap.size+1]?=some (.cells #[.bool (putAll (0,false) (s.data.toList.take k)).2] 4 (0,0))
 c:∀ j (hj:j < s.data.size),wr.cell? ⟨w.heap.size+1+1,j,none⟩=some (.int .u8 (s.data[j].toNat:Int))
 d:(s.data.toList.take k).all isDig=true
 b:Below w.heap.size w wr
theorem size_pos_of {s:ByteArray} (hne:s.toList.isEmpty=false):0 < s.size:=by
 rcases Nat.eq_zero_or_pos s.size with h | h
 ·exfalso
  rw [ByteArray.toList_eq] at hne;have h2:s.data.toList.length=0:=by rw [Array.length_toList];exact h
  rw [List.length_eq_zero_iff.1 h2] at hne;cases hne
 ·exact h
theorem putAll_snoc (p:Int × Bool) (l:List UInt8) (c:UInt8):putAll p (l ++ [c])=putN (putAll p l) ((c.toNat:Int) % 16):=by simp [putAll]
theorem take_next {s:ByteArray} {k:Nat} (hk:k < s.data.size):s.data.toList.take (k+1)=s.data.toList.take k ++ [s.data[k]]:=by
 rw [List.take_add_one,gqe (by simpa using hk)];simp
theorem putAll_le (l:List UInt8) (hl:l.all isDig=true):0<=(putAll (0,false) l).1/\(putAll (0,false) l).1<=4611686018427387904:=by
 suffices h:∀ l:List UInt8,l.all isDig=true->∀ p:Int × Bool,0<=p.1->p.1<=4611686018427387904->0<=(putAll p l).1/\(putAll p l).1<=4611686018427387904 from h l hl _ (by omega) (by simp)
 intro l
 induction l with
 | nil=>intro _ p h0 h1;exact⟨h0,h1⟩
 | cons c l ih =>
  intro hl p h0 h1;simp only [List.all_cons,Bool.and_eq_true] at hl;have hc:48<=(c.toNat:Int)/\(c.toNat:Int)<=57:=by simpa [isDig] using hl.1
  have e:putAll p (c :: l)=putAll (putN p ((c.toNat:Int) % 16)) l:=rfl;rw [e];refine ih hl.2 _ ?_ ?_
  ·unfold putN;split <;> simp <;> omega
  ·unfold putN;split <;> simp <;> omega
theorem setCell_self {w:World} {g:Nat} {v x:Value} {e:TypeId} (h:w.heap[g]?=some (.cells #[v] e (0,0))):(w.setCell ⟨g,0,none⟩ x).heap[g]?=some (.cells #[x] e (0,0)):=by
 simp [World.setCell,Array.getElem?_modify,h]
theorem setCell_other {w:World} {g k:Nat} (x:Value) (h:k≠g):(w.setCell ⟨g,0,none⟩ x).heap[k]?=w.heap[k]?:=Below.heap_setCell _ _ _ _ h
theorem cell_setCell_other {w:World} {g k j:Nat} (x:Value) (h:k≠g):(w.setCell ⟨g,0,none⟩ x).cell? ⟨k,j,none⟩=w.cell? ⟨k,j,none⟩:=World.cell?_of_block (w:=w) (setCell_other x h)
theorem ParseAt.step {s:ByteArray} {w wr:World} {k:Nat} (hp:ParseAt s w k wr) (hk:k < s.data.size) (hd:isDig s.data[k]=true) :
  ParseAt s w (k+1) (if(4611686018427387904 - (s.data[k].toNat:Int) % 16) / 10 < (putAll (0,false) (s.data.toList.take k)).1 then wr.setCell ⟨w.heap.size+1,0,none⟩ (.bool true) else wr.setCell ⟨w.heap.size,0,none⟩ (.int .i64 ((putAll (0,false) (s.data.toList.take k)).1 * 10+(s.data[k].toNat:Int) % 16))):=by
 have e1:=take_next hk;have e2:=putAll_snoc (0,false) (s.data.toList.take k) s.data[k];have ea:(s.data.toList.take (k+1)).all isDig=true:=by rw [e1,List.all_append,hp.d];simp [hd]
 rw [← e1] at e2
 by_cases h:(4611686018427387904 - (s.data[k].toNat:Int) % 16) / 10 < (putAll (0,false) (s.data.toList.take k)).1
 ·rw [if_pos h];have e3:putAll (0,false) (s.data.toList.take (k+1))=((putAll (0,false) (s.data.toList.take k)).1,true):=by rw [e2,putN,if_pos h]
  refine⟨?_,?_,?_,ea,hp.b.setCell (by simp) _⟩
  ·rw [setCell_other _ (by omega),e3];exact hp.n
  ·rw [e3];exact setCell_self hp.o
  ·intro j hj;rw [cell_setCell_other _ (by omega)];exact hp.c j hj
 ·rw [if_neg h];have e3:putAll (0,false) (s.data.toList.take (k+1))=((putAll (0,false) (s.data.toList.take k)).1 * 10+(s.data[k].toNat:Int) % 16,(putAll (0,false) (s.data.toList.take k)).2):=by rw [e2,putN,if_neg h]
  refine⟨?_,?_,?_,ea,hp.b.setCell (by simp) _⟩
  ·rw [e3];exact setCell_self hp.n
  ·rw [setCell_other _ (by omega),e3];exact hp.o
  ·intro j hj;rw [cell_setCell_other _ (by omega)];exact hp.c j hj
theorem isNum_of {s:ByteArray} (hne:s.toList.isEmpty=false) (hz:1 < s.size->∀ h:0 < s.size,(((s[0]'h).toNat:Int) == 48)=false):isNum s.data.toList=s.data.toList.all isDig:=by
 have hsz:=size_pos_of hne;rw [ByteArray.toList_eq] at hne;unfold isNum;rw [hne]
 have:(decide (1 < s.data.toList.length) && s.data.toList.getD 0 0 == 48)=false:=by
  by_cases h1:1 < s.size
  ·have h2:=hz h1 hsz
   have h3:s.data.toList.getD 0 0=s[0]'hsz:=by
    rw [List.getD_eq_getElem?_getD,gqe (by simpa using hsz)];rfl
   rw [h3];rw [Bool.and_eq_false_iff];right;rw [beq_eq_false_iff_ne] at h2 ⊢;intro h4;rw [h4] at h2;exact h2 rfl
  ·rw [Bool.and_eq_false_iff];left;rw [decide_eq_false_iff_not,Array.length_toList];exact h1
 rw [this];simp
theorem parse_bad {s:ByteArray} {k:Nat} (hk:k < s.data.size) (hd:isDig s.data[k]=false) (hn:isNum s.data.toList=s.data.toList.all isDig):parseV s.data.toList=0/\parseE s.data.toList=20:=by
 have:isNum s.data.toList=false:=by
  rw [hn,Bool.eq_false_iff];intro h;rw [List.all_eq_true] at h;have:=h s.data[k] (by simp);rw [hd] at this;cases this
 simp [parseV,parseE,this]
theorem parse_end {s:ByteArray} {k:Nat} (hk:¬ k < s.size) (hd:(s.data.toList.take k).all isDig=true) (hn:isNum s.data.toList=s.data.toList.all isDig) :
  s.data.toList.take k=s.data.toList/\isNum s.data.toList=true:=by
 have e:s.data.toList.take k=s.data.toList:=List.take_of_length_le (by rw [Array.length_toList];exact Nat.le_of_not_lt hk);rw [e] at hd;exact⟨e,by rw [hn,hd]⟩
theorem parse_over {l:List UInt8} (hn:isNum l=true) (h:(putAll (0,false) l).2=true):parseV l=0/\parseE l=10:=by simp [parseV,parseE,hn,h]
theorem parse_fits {l:List UInt8} (hn:isNum l=true) (h:(putAll (0,false) l).2=false):parseV l=(putAll (0,false) l).1/\parseE l=0:=by simp [parseV,parseE,hn,h]
theorem parse_loop (s:ByteArray) (hs:s.size<=140737488351232) (w:World) (hne:s.toList.isEmpty=false) (hz:1 < s.size->∀ h:0 < s.size,(((s[0]'h).toNat:Int) == 48)=false) :
  Calls Tryz.prog 137 #[.string s] w fun e w'=>e=.returned (.tuple #[.int .i64 (parseV s.data.toList),.int .i64 (parseE s.data.toList)])/\Below w.heap.size w w':=by
 have hconv:=run_bytes_of_string (P:=Tryz.prog) ((w.alloc (.cells #[.int .i64 0] 3)).alloc (.cells #[.bool false] 4)) 9 66 5 s Tryz.underlying9 Tryz.underlying66 Tryz.underlying5;have hsz:=size_pos_of hne;have HN:=kp (isNum_of hne hz)
 by_cases h1:1 < s.size
 all_goals (first | replace hz:=hz h1 | clear hz)
 all_goals
  go_enter Tryz.func137,Tryz.ntmps137
  go_wp2_with fail
  go_loopw [25] (fun i wr=>∃ k:Nat,k<=s.size/\i=.int .i64 k/\ParseAt s w k wr) (fun i _=>s.size - (intOf i).toNat)
  case atStart =>
   refine⟨0,Nat.zero_le _,rfl,?_,?_,?_,rfl,?_⟩
   ·show(((w.heap.push _).push _).push _)[w.heap.size]?=_;simp only [Array.getElem?_push,Array.size_push];rw [if_neg (by omega),if_neg (by omega),if_pos trivial];rfl
   ·show(((w.heap.push _).push _).push _)[w.heap.size+1]?=_;simp only [Array.getElem?_push,Array.size_push];rw [if_neg (by omega),if_pos trivial];rfl
   ·intro j hj;have:=World.cell?_alloc_mark ((w.alloc (.cells #[.int .i64 0] 3)).alloc (.cells #[.bool false] 4)) (bytesRow s (grownCap ((w.alloc (.cells #[.int .i64 0] 3)).alloc (.cells #[.bool false] 4)) s.size 0 5)) 5 ((bytesRow s (grownCap ((w.alloc (.cells #[.int .i64 0] 3)).alloc (.cells #[.bool false] 4)) s.size 0 5)).size,(bytesRow s (grownCap ((w.alloc (.cells #[.int .i64 0] 3)).alloc (.cells #[.bool false] 4)) s.size 0 5)).size+1) j;rw [bytesRow_at _ _ _ hj] at this
    simpa using this
   ·exact(((((Below.refl _ _).alloc nlq _).alloc (by simp) _).alloc (by simp;omega) _).drew)
  case round =>
   clear hconv;obtain ⟨k,hk,rfl,hp⟩:=hrel;have hnc:=cell_of_cells hp.n 0;have hoc:=cell_of_cells hp.o 0;have hnf:=frozen_of_cells hp.n 0;have hof:=frozen_of_cells hp.o 0
   by_cases hlt:k < s.size
   ·have hcc:=hp.c k hlt;have hle:=putAll_le _ hp.d;have HP:=kp (fun hd=>hp.step hlt hd);have HX:=kp (fun hd=>parse_bad (s:=s) (k:=k) hlt hd HN.out);have HB:=kp hp.b;clear hp;generalize s.data[k]=c at *;generalize (putAll (0,false) (s.data.toList.take k)).1=n at *;generalize (putAll (0,false) (s.data.toList.take k)).2=o at *;obtain ⟨hle0,hle1⟩:=hle;go_wp2_with fail
    ·have hx:=HX.out (by unfold isDig;rw [decide_eq_false_iff_not];omega);go_ret2;exact⟨pair_int ⟨hx.1.symm,hx.2.symm⟩,HB.out⟩
    ·have hd:isDig c=true:=by unfold isDig;rw [decide_eq_true_iff];omega
     refine(put_any ((c.toNat:Int) % 16) n o w.heap.size (w.heap.size+1) wr (by omega) (by omega) hle0 hle1 hnc hoc hnf hof).mono ?_;rintro e w' ⟨rfl,hw⟩;have HW:=kp hw;clear hw;go_wp2_with fail
     go_roundw
     case rel=>exact⟨k+1,by omega,by go_num,by rw [HW.out];exact HP.out hd⟩
     case measure=>simp [intOf];omega
    ·have hx:=HX.out (by unfold isDig;rw [decide_eq_false_iff_not];omega);go_ret2;exact⟨pair_int ⟨hx.1.symm,hx.2.symm⟩,HB.out⟩
   ·obtain ⟨e1,e2⟩:=parse_end hlt hp.d HN.out;have HB:=kp hp.b;rw [e1] at hnc hoc;have HF:=kp (parse_fits e2);have HO:=kp (parse_over e2);clear hp e1 e2;generalize (putAll (0,false) s.data.toList).1=n at *;generalize (putAll (0,false) s.data.toList).2=o at *
    cases o
    ·go_wp2_with fail
     have hx:=HF.out trivial;go_ret2;exact⟨pair_int ⟨hx.1.symm,hx.2.symm⟩,HB.out⟩
    ·go_wp2_with fail
     have hx:=HO.out trivial;go_ret2;exact⟨pair_int ⟨hx.1.symm,hx.2.symm⟩,HB.out⟩
theorem byte_toNat_eq {c:UInt8} {n:Nat} (h:((c.toNat:Int) == (n:Int))=true) (hn:n < 256):c=UInt8.ofNat n:=by
 rw [beq_iff_eq] at h
 apply UInt8.toNat_inj.1
 rw [UInt8.toNat_ofNat',Nat.mod_eq_of_lt hn];omega
theorem parse_none {s:ByteArray} (h:s.toList=[]\/(1 < s.size/\∃ h:0 < s.size,(((s[0]'h).toNat:Int) == 48)=true)):parseV s.data.toList=0/\parseE s.data.toList=20:=by
 have:isNum s.data.toList=false:=by
  rcases h with h | ⟨h1,h2,h3⟩
  ·rw [ByteArray.toList_eq] at h;rw [h];rfl
  ·have h5:s.data.toList.getD 0 0=s[0]'h2:=by
    rw [List.getD_eq_getElem?_getD,gqe (by simpa using h2)];rfl
   have h6:=byte_toNat_eq (n:=48) h3 (by omega);unfold isNum;rw [h5,h6,decide_eq_true (by rw [Array.length_toList];exact h1)];simp
 simp [parseV,parseE,this]
theorem parse_any (s:ByteArray) (hs:s.size<=140737488351232) (w:World) :
  Calls Tryz.prog 137 #[.string s] w fun e w'=>e=.returned (.tuple #[.int .i64 (parseV s.data.toList),.int .i64 (parseE s.data.toList)])/\Below w.heap.size w w':=by
 by_cases h0:s.toList=[]
 ·have HX:=kp (parse_none (Or.inl h0))
  go_enter Tryz.func137,Tryz.ntmps137
  go_wp2_with fail
  have hx:=HX.out;go_ret2;exact⟨pair_int ⟨hx.1.symm,hx.2.symm⟩,Below.refl _ _⟩
 ·have hne:s.toList.isEmpty=false:=by cases h:s.toList <;> simp_all
  by_cases h1:1 < s.size
  ·have hsz:=size_pos_of hne
   cases hc:(((s[0]'hsz).toNat:Int) == 48) with
   | true =>
    have HX:=kp (parse_none (Or.inr ⟨h1,hsz,hc⟩))
    go_enter Tryz.func137,Tryz.ntmps137
    go_wp2_with fail
    have hx:=HX.out;go_ret2;exact⟨pair_int ⟨hx.1.symm,hx.2.symm⟩,Below.refl _ _⟩
   | false=>exact parse_loop s hs w hne (fun _ _=>hc)
  ·exact parse_loop s hs w hne (fun h=>absurd h h1)
end
namespace Bk
open Go.RowKit
theorem new (w:World) (o:Obj):(w.alloc o).heap[w.heap.size]?=some o:=Array.getElem?_push_size
theorem keep {w:World} {b:Nat} {x:Obj} (h:w.heap[b]?=some x) (o:Obj):(w.alloc o).heap[b]?=some x:=(Below.heap_alloc w o b (lt_of_block h)).trans h
theorem on {w w':World} {b:Nat} {x:Obj} (h:w.heap[b]?=some x) (hb:Below w.heap.size w w'):w'.heap[b]?=some x:=(hb.block b (lt_of_block h)).trans h
theorem on' {w w':World} {b B:Nat} {x:Obj} (h:w.heap[b]?=some x) (hb:Below B w w') (hB:b < B):w'.heap[b]?=some x:=(hb.block b hB).trans h
theorem apart {w:World} {b:Nat} {x:Obj} (h:w.heap[b]?=some x) {p:Addr} (hp:b≠p.block) (u:Value):(w.setCell p u).heap[b]?=some x:=(Below.heap_setCell w p u b hp).trans h
theorem set_at {w:World} {b:Nat} {cs:Array Value} {t:TypeId} {fr:Nat × Nat} (h:w.heap[b]?=some (.cells cs t fr)) (j:Nat) (u:Value):(w.setCell ⟨b,j,none⟩ u).heap[b]?=some (.cells (cs.setIfInBounds j u) t fr):=by
 simp [World.setCell,Array.getElem?_modify,h]
theorem c1 {w:World} {b:Nat} {a0:Value} {t:TypeId} (h:w.heap[b]?=some (.cells #[a0] t (0,0))):w.cell? ⟨b,0,none⟩=some a0/\∀ j,w.frozen? ⟨b,j,none⟩=false :=
 ⟨by rw [cell_of_cells h];rfl,fun j=>frozen_of_cells h j⟩
theorem c2 {w:World} {b:Nat} {a0 a1:Value} {t:TypeId} (h:w.heap[b]?=some (.cells #[a0,a1] t (0,0))):w.cell? ⟨b,0,none⟩=some a0/\w.cell? ⟨b,1,none⟩=some a1/\∀ j,w.frozen? ⟨b,j,none⟩=false :=
 ⟨by rw [cell_of_cells h];rfl,by rw [cell_of_cells h];rfl,fun j=>frozen_of_cells h j⟩
theorem c3 {w:World} {b:Nat} {a0 a1 a2:Value} {t:TypeId} (h:w.heap[b]?=some (.cells #[a0,a1,a2] t (0,0))):w.cell? ⟨b,0,none⟩=some a0/\w.cell? ⟨b,1,none⟩=some a1/\w.cell? ⟨b,2,none⟩=some a2/\∀ j,w.frozen? ⟨b,j,none⟩=false :=
 ⟨by rw [cell_of_cells h];rfl,by rw [cell_of_cells h];rfl,by rw [cell_of_cells h];rfl,fun j=>frozen_of_cells h j⟩
theorem c4 {w:World} {b:Nat} {a0 a1 a2 a3:Value} {t:TypeId} (h:w.heap[b]?=some (.cells #[a0,a1,a2,a3] t (0,0))):w.cell? ⟨b,0,none⟩=some a0/\w.cell? ⟨b,1,none⟩=some a1/\w.cell? ⟨b,2,none⟩=some a2/\w.cell? ⟨b,3,none⟩=some a3/\∀ j,w.frozen? ⟨b,j,none⟩=false :=
 ⟨by rw [cell_of_cells h];rfl,by rw [cell_of_cells h];rfl,by rw [cell_of_cells h];rfl,by rw [cell_of_cells h];rfl,fun j=>frozen_of_cells h j⟩
theorem c5 {w:World} {b:Nat} {a0 a1 a2 a3 a4:Value} {t:TypeId} (h:w.heap[b]?=some (.cells #[a0,a1,a2,a3,a4] t (0,0))):w.cell? ⟨b,0,none⟩=some a0/\w.cell? ⟨b,1,none⟩=some a1/\w.cell? ⟨b,2,none⟩=some a2/\w.cell? ⟨b,3,none⟩=some a3/\w.cell? ⟨b,4,none⟩=some a4/\∀ j,w.frozen? ⟨b,j,none⟩=false :=
 ⟨by rw [cell_of_cells h];rfl,by rw [cell_of_cells h];rfl,by rw [cell_of_cells h];rfl,by rw [cell_of_cells h];rfl,by rw [cell_of_cells h];rfl,fun j=>frozen_of_cells h j⟩
theorem c6 {w:World} {b:Nat} {a0 a1 a2 a3 a4 a5:Value} {t:TypeId} (h:w.heap[b]?=some (.cells #[a0,a1,a2,a3,a4,a5] t (0,0))):w.cell? ⟨b,0,none⟩=some a0/\w.cell? ⟨b,1,none⟩=some a1/\w.cell? ⟨b,2,none⟩=some a2/\w.cell? ⟨b,3,none⟩=some a3/\w.cell? ⟨b,4,none⟩=some a4/\w.cell? ⟨b,5,none⟩=some a5/\∀ j,w.frozen? ⟨b,j,none⟩=false :=
 ⟨by rw [cell_of_cells h];rfl,by rw [cell_of_cells h];rfl,by rw [cell_of_cells h];rfl,by rw [cell_of_cells h];rfl,by rw [cell_of_cells h];rfl,by rw [cell_of_cells h];rfl,fun j=>frozen_of_cells h j⟩
theorem c7 {w:World} {b:Nat} {a0 a1 a2 a3 a4 a5 a6:Value} {t:TypeId} (h:w.heap[b]?=some (.cells #[a0,a1,a2,a3,a4,a5,a6] t (0,0))):w.cell? ⟨b,0,none⟩=some a0/\w.cell? ⟨b,1,none⟩=some a1/\w.cell? ⟨b,2,none⟩=some a2/\w.cell? ⟨b,3,none⟩=some a3/\w.cell? ⟨b,4,none⟩=some a4/\w.cell? ⟨b,5,none⟩=some a5/\w.cell? ⟨b,6,none⟩=some a6/\∀ j,w.frozen? ⟨b,j,none⟩=false :=
 ⟨by rw [cell_of_cells h];rfl,by rw [cell_of_cells h];rfl,by rw [cell_of_cells h];rfl,by rw [cell_of_cells h];rfl,by rw [cell_of_cells h];rfl,by rw [cell_of_cells h];rfl,by rw [cell_of_cells h];rfl,fun j=>frozen_of_cells h j⟩
theorem c8 {w:World} {b:Nat} {a0 a1 a2 a3 a4 a5 a6 a7:Value} {t:TypeId} (h:w.heap[b]?=some (.cells #[a0,a1,a2,a3,a4,a5,a6,a7] t (0,0))):w.cell? ⟨b,0,none⟩=some a0/\w.cell? ⟨b,1,none⟩=some a1/\w.cell? ⟨b,2,none⟩=some a2/\w.cell? ⟨b,3,none⟩=some a3/\w.cell? ⟨b,4,none⟩=some a4/\w.cell? ⟨b,5,none⟩=some a5/\w.cell? ⟨b,6,none⟩=some a6/\w.cell? ⟨b,7,none⟩=some a7/\∀ j,w.frozen? ⟨b,j,none⟩=false :=
 ⟨by rw [cell_of_cells h];rfl,by rw [cell_of_cells h];rfl,by rw [cell_of_cells h];rfl,by rw [cell_of_cells h];rfl,by rw [cell_of_cells h];rfl,by rw [cell_of_cells h];rfl,by rw [cell_of_cells h];rfl,by rw [cell_of_cells h];rfl,fun j=>frozen_of_cells h j⟩
theorem c9 {w:World} {b:Nat} {a0 a1 a2 a3 a4 a5 a6 a7 a8:Value} {t:TypeId} (h:w.heap[b]?=some (.cells #[a0,a1,a2,a3,a4,a5,a6,a7,a8] t (0,0))):w.cell? ⟨b,0,none⟩=some a0/\w.cell? ⟨b,1,none⟩=some a1/\w.cell? ⟨b,2,none⟩=some a2/\w.cell? ⟨b,3,none⟩=some a3/\w.cell? ⟨b,4,none⟩=some a4/\w.cell? ⟨b,5,none⟩=some a5/\w.cell? ⟨b,6,none⟩=some a6/\w.cell? ⟨b,7,none⟩=some a7/\w.cell? ⟨b,8,none⟩=some a8/\∀ j,w.frozen? ⟨b,j,none⟩=false :=
 ⟨by rw [cell_of_cells h];rfl,by rw [cell_of_cells h];rfl,by rw [cell_of_cells h];rfl,by rw [cell_of_cells h];rfl,by rw [cell_of_cells h];rfl,by rw [cell_of_cells h];rfl,by rw [cell_of_cells h];rfl,by rw [cell_of_cells h];rfl,by rw [cell_of_cells h];rfl,fun j=>frozen_of_cells h j⟩
end Bk
section
open Go.RowKit
def SameIn (lo hi:Nat) (w W:World):Prop:=∀ b,lo<=b->b < hi->W.heap[b]?=w.heap[b]?
theorem SameIn.refl (lo hi:Nat) (w:World):SameIn lo hi w w:=fun _ _ _=>rfl
theorem SameIn.part {lo hi l2 h2:Nat} {w W:World} (h:SameIn lo hi w W) (h1:lo<=l2) (h3:h2<=hi):SameIn l2 h2 w W:=fun b a c=>h b (by omega) (by omega)
theorem SameIn.trans {lo hi:Nat} {w W V:World} (h:SameIn lo hi w W) (k:SameIn lo hi W V):SameIn lo hi w V:=fun b a c=>(k b a c).trans (h b a c)
theorem SameIn.of_below {lo hi:Nat} {w W:World} (h:Below w.heap.size w W) (hh:hi<=w.heap.size):SameIn lo hi w W:=fun b _ c=>h.block b (by omega)
theorem SameIn.setCell (lo hi:Nat) (w:World) (p:Addr) (u:Value) (hp:p.block < lo\/hi<=p.block):SameIn lo hi w (w.setCell p u):=fun b a c=>Below.heap_setCell w p u b (by omega)
theorem SameIn.keeps {S:Nat->Prop} {lo hi:Nat} {w W:World} (h:Keeps S w W) (hh:hi<=w.heap.size) (hS:∀ b,lo<=b->b < hi->¬ S b):SameIn lo hi w W:=fun b a c=>h.block b (by omega) (hS b a c)
section
variable {α:Type} {n:Nat} {val:α->List Value} {Ok:World->α->Prop}
def InOk (Ok:World->α->Prop) (lo hi:Nat) (w:World) (y:α):Prop:=lo<=hi/\hi<=w.heap.size/\∀ W,SameIn lo hi w W->Ok W y
theorem InOk.on {lo hi:Nat} {w W:World} {y:α} (h:InOk Ok lo hi w y) (hs:SameIn lo hi w W) (hz:w.heap.size<=W.heap.size):InOk Ok lo hi W y:=⟨h.1,by have:=h.2.1;omega,fun V hV=>h.2.2 V (hs.trans hV)⟩
theorem InOk.below {lo hi:Nat} {w W:World} {y:α} (h:InOk Ok lo hi w y) (hb:Below w.heap.size w W):InOk Ok lo hi W y:=h.on (SameIn.of_below hb h.2.1) hb.size
theorem InOk.wide {lo hi l2 h2:Nat} {w:World} {y:α} (h:InOk Ok lo hi w y) (h1:l2<=lo) (h3:hi<=h2) (h4:h2<=w.heap.size):InOk Ok l2 h2 w y:=⟨by have:=h.1;omega,h4,fun W hW=>h.2.2 W (hW.part h1 h3)⟩
theorem InOk.now {lo hi:Nat} {w:World} {y:α} (h:InOk Ok lo hi w y):Ok w y:=h.2.2 w (SameIn.refl _ _ _)
def flatV (val:α->List Value):List α->List Value
 | []=>[]
 | y :: r=>val y ++ flatV val r
theorem flatV_append (a b:List α):flatV val (a ++ b)=flatV val a ++ flatV val b:=by
 induction a with
 | nil=>rfl
 | cons x a ih=>simp only [List.cons_append,flatV,ih,List.append_assoc]
theorem flatV_snoc (a:List α) (y:α):flatV val (a ++ [y])=flatV val a ++ val y:=by rw [flatV_append];simp [flatV]
theorem flatV_len (hv:∀ y,(val y).length=n):∀ ys:List α,(flatV val ys).length=ys.length * n
 | []=>by simp [flatV]
 | y :: r=>by simp only [flatV,List.length_append,List.length_cons,hv,flatV_len hv r,Nat.succ_mul];omega
theorem flatV_at (hv:∀ y,(val y).length=n):∀ (ys:List α) (i:Nat) (y:α),ys[i]?=some y->∀ j u,(val y)[j]?=some u->(flatV val ys)[i * n+j]?=some u
 | [],i,y,h=>by simp at h
 | y0 :: r,0,y,h=>fun j u hu=>by
  simp at h;subst h;have hj:=(gqs hu).1;rw [Nat.zero_mul,Nat.zero_add];show(val y0 ++ flatV val r)[j]?=some u;rw [List.getElem?_append_left hj];exact hu
 | y0 :: r,i+1,y,h=>fun j u hu=>by
  have h':r[i]?=some y:=by simpa using h
  have:=flatV_at hv r i y h' j u hu;show(val y0 ++ flatV val r)[(i+1) * n+j]?=some u;rw [List.getElem?_append_right (by rw [hv,Nat.succ_mul];omega),hv,Nat.succ_mul,show i * n+n+j - n=i * n+j by omega];exact this
structure RowOk (n:Nat) (val:α->List Value) (Ok:World->α->Prop) (base:Nat) (t:TypeId) (w:World) (v:Value) (ys:List α):Prop where
 own:w.ownsRow base t n v ys.length (flatV val ys)
 bits:∀ y ∈ ys,∃ lo hi,base<=lo/\InOk Ok lo hi w y/\∀ g,v.ownBlock=some g->¬ (lo<=g/\g < hi)
variable {base:Nat} {t:TypeId} {w w':World} {v:Value} {ys:List α}
theorem RowOk.nil (w:World):RowOk n val Ok base t w (.slice none 0 0) ([]:List α):=⟨⟨by simp [flatV],.inl ⟨rfl,rfl⟩⟩,fun y hy=>by cases hy⟩
theorem RowOk.lt (h:RowOk n val Ok base t w v ys):∀ g,v.ownBlock=some g->base<=g/\g < w.heap.size:=h.own.lt
theorem RowOk.shape (h:RowOk n val Ok base t w v ys):∃ A c,v=.slice A ys.length c/\ys.length<=c/\c<=maxLen:=by
 rcases h.own.2 with⟨h1,h2⟩ | ⟨g,cap,cur,h1,_,_,h2,h3,_⟩
 ·exact⟨none,0,by rw [h2];exact h1,by omega,by unfold maxLen;omega⟩
 ·exact⟨_,cap,h1,h2,h3⟩
theorem RowOk.keep {S:Nat->Prop} (h:RowOk n val Ok base t w v ys) (hk:Keeps S w w') (hS:∀ b,S b->b < base):RowOk n val Ok base t w' v ys:=by
 refine⟨⟨h.own.1,?_⟩,fun y hy=>?_⟩
 ·rcases h.own.2 with h1 | ⟨g,cap,cur,h1,hg,hat,h2⟩
  ·exact .inl h1
  ·exact .inr ⟨g,cap,cur,h1,hg,(hk.block g (lt_of_block hat) (fun hs=>by have:=hS g hs;omega)).trans hat,h2⟩
 ·obtain ⟨lo,hi,h1,h2,h3⟩:=h.bits y hy;exact⟨lo,hi,h1,h2.on (SameIn.keeps hk h2.2.1 (fun b a _ hs=>by have:=hS b hs;omega)) hk.size,h3⟩
theorem RowOk.below (h:RowOk n val Ok base t w v ys) (hb:Below w.heap.size w w'):RowOk n val Ok base t w' v ys:=h.keep (Keeps.of_below hb (fun _=>False)) (fun _ h=>h.elim)
theorem RowOk.push {v':Value} {y:α} {lo hi:Nat} (h:RowOk n val Ok base t w v ys) (ho:w'.ownsRow base t n v' (ys.length+1) (flatV val ys ++ val y)) (hg:w.grownBy w' v.ownBlock)
  (hat:v'.ownBlock=v.ownBlock\/v'.ownBlock=some w.heap.size) (hlo:base<=lo) (hy:InOk Ok lo hi w y) (hno:∀ g,v.ownBlock=some g->¬ (lo<=g/\g < hi)):RowOk n val Ok base t w' v' (ys ++ [y]):=by
 have hsame:∀ l2 h2,h2<=w.heap.size->(∀ g,v.ownBlock=some g->¬ (l2<=g/\g < h2))->SameIn l2 h2 w w':=fun l2 h2 hz hn b a c=>hg.block b (by omega) (fun e=>hn b e.symm ⟨a,c⟩)
 have hown:∀ l2 h2,h2<=w.heap.size->(∀ g,v.ownBlock=some g->¬ (l2<=g/\g < h2))->∀ g,v'.ownBlock=some g->¬ (l2<=g/\g < h2):=fun l2 h2 hz hn g he=>by
  rcases hat with e | e
  ·exact hn g (e ▸ he)
  ·rw [e] at he;cases he;omega
 refine⟨by rw [List.length_append,flatV_snoc];exact ho,fun z hz=>?_⟩;rcases List.mem_append.1 hz with hz | hz
 ·obtain ⟨l2,h2,a,b,c⟩:=h.bits z hz;exact⟨l2,h2,a,b.on (hsame l2 h2 b.2.1 c) hg.size,hown l2 h2 b.2.1 c⟩
 ·obtain rfl:z=y:=by simpa using hz
  exact⟨lo,hi,hlo,hy.on (hsame lo hi hy.2.1 hno) hg.size,hown lo hi hy.2.1 hno⟩
theorem RowOk.lies {α':Type} {A:Option Addr} {k c:Nat} {R:World->List Value->α'->Prop} {f:α->α'} (hv:∀ y,(val y).length=n) (hR:∀ W y,Ok W y->R W (val y) (f y))
  (h:RowOk n val Ok base t w (.slice A k c) ys) {W:World} (hW:SameIn base w.heap.size w W):Lies n R W A (ys.map f):=by
 rcases h.own.2 with⟨h1,h2⟩ | ⟨g,cap,cur,h1,hg,hat,h2,h3,h4,h5⟩
 ·exact .inl (by rw [List.map_eq_nil_iff];exact List.length_eq_zero_iff.1 h2)
 ·simp only [Value.slice.injEq] at h1;have hgl:=lt_of_block hat;have hat':=(hW g hg hgl).trans hat;refine .inr ⟨g,0,h1.1,lt_of_block hat',fun i x hx=>?_⟩;rw [List.getElem?_map] at hx
  cases hy:ys[i]? with
  | none=>rw [hy] at hx;cases hx
  | some y =>
   rw [hy] at hx;obtain rfl:f y=x:=by simpa using hx
   obtain ⟨lo,hi,a,b,_⟩:=h.bits y (mgq hy);refine⟨val y,hv y,fun j u hu=>?_,hR W y (b.2.2 W (hW.part a b.2.1))⟩;rw [Nat.zero_add,cell_of_row W g (i * n+j) cur t (0,0) hat'];have:=flatV_at hv ys i y hy j u hu;rw [← h5,List.getElem?_take] at this
   split at this
   ·simpa using this
   ·cases this
end
end
section
open Go.RowKit Go.Maps
theorem plainElem_bool_inv {P:Program} {e:TypeId} (he:P.underlying e=some .bool) {v:Value} {z:DataW Unit × List MemPlace} (h:plainElem P e v=some z):∃ b,v=.bool b/\z=(.lit (.bool b),[]):=by
 unfold plainElem at h;rw [he] at h
 split at h
 ·rename_i x _;cases h;exact⟨_,rfl,rfl⟩
 all_goals simp_all
def BoolMap (P:Program) (k e:TypeId) (w:World) (b n:Nat) (S:Value->Prop):Prop :=
 ∃ D:DataW Unit,w.ownsMap P k (plainElem P e) b n D/\∀ key kl,keyOf P k key=some kl->∃ c,D.atKey kl (.lit (.bool false))=.lit (.bool c)/\(c=true ↔ S key)
section
variable {P:Program} {k e t:TypeId} {w:World} {b n:Nat} {S:Value->Prop}
theorem BoolMap.made (w:World) (P:Program) (k e:TypeId):BoolMap P k e (w.alloc (.map #[] 0)) w.heap.size 0 (fun _=>False) :=
 ⟨.map [],World.ownsMap_made w P k _,fun _ _ _=>⟨false,rfl,by simp⟩⟩
theorem BoolMap.kept {w':World} {row:Option Nat} (h:BoolMap P k e w b n S) (hg:w.grownBy w' row) (hne:some b≠row):BoolMap P k e w' b n S:=by
 obtain ⟨D,h1,h2⟩:=h;exact⟨D,h1.kept hg hne,h2⟩
theorem BoolMap.lt (h:BoolMap P k e w b n S):b < w.heap.size:=by obtain ⟨D,h1,_⟩:=h;exact h1.lt
theorem BoolMap.alloc (h:BoolMap P k e w b n S) (o:Obj):BoolMap P k e (w.alloc o) b n S:=by obtain ⟨D,h1,h2⟩:=h;exact⟨D,h1.alloc o,h2⟩
theorem BoolMap.keeps {T:Nat->Prop} {w':World} (h:BoolMap P k e w b n S) (hk:Keeps T w w') (hT:¬ T b):BoolMap P k e w' b n S:=by
 obtain ⟨D,⟨es,clock,hb,r⟩,h2⟩:=h;exact⟨D,⟨es,clock,(hk.block b (lt_of_block hb) hT).trans hb,r⟩,h2⟩
theorem BoolMap.below {w':World} (h:BoolMap P k e w b n S) (hb:Below w.heap.size w w'):BoolMap P k e w' b n S:=h.keeps (Keeps.of_below hb (fun _=>False)) id
theorem BoolMap.imp {S':Value->Prop} (h:BoolMap P k e w b n S) (hS:∀ x,S x ↔ S' x):BoolMap P k e w b n S':=by
 obtain ⟨D,h1,h2⟩:=h;exact⟨D,h1,fun key kl hk=>by obtain ⟨c,a,r⟩:=h2 key kl hk;exact⟨c,a,r.trans (hS key)⟩⟩
theorem BoolMap.look (h:BoolMap P k e w b n S) (K:Keyed P k) (ht:P.underlying t=some (.map k e)) (he:P.underlying e=some .bool) (hz:∀ w,(zeroValue e).run P w=.ok (.bool false) w) {key:Value} {kl:Lit} (hkey:keyOf P k key=some kl) :
  ∃ c,(Instr.lookup t (.map (some b)) key false).run P w=.ok (.bool c) w/\(c=true ↔ S key):=by
 obtain ⟨D,h1,h2⟩:=h;obtain ⟨v,ps,hrun,hv⟩:=h1.lookup K ht (hz w) (plainElem_bool he false) hkey;obtain ⟨c,hc,hS⟩:=h2 key kl hkey;obtain ⟨c',rfl,hc'⟩:=plainElem_bool_inv he hv;rw [hc] at hc';simp at hc';exact⟨c',hrun,by rw [← hc'.1];exact hS⟩
theorem BoolMap.store (h:BoolMap P k e w b n S) (K:Keyed P k) (ht:P.underlying t=some (.map k e)) (he:P.underlying e=some .bool) (hn:n < maxLen) {key:Value} {kl:Lit} (hkey:keyOf P k key=some kl) :
  ∃ w',(Instr.mapUpdate t (.map (some b)) key (.bool true)).run P w=.ok () w'/\BoolMap P k e w' b (n+1) (fun x=>x=key\/S x)/\w.grownBy w' (some b):=by
 obtain ⟨D,h1,h2⟩:=h;obtain ⟨w',hrun,h3,h4⟩:=h1.update K ht hn hkey (plainElem_bool he true);refine⟨w',hrun,⟨_,h3,fun x xl hx=>?_⟩,h4⟩
 by_cases hq:xl=kl
 ·subst hq;have hxk:x=key:=K.inj hx hkey;exact⟨true,atKey_put_same h1.isMap (K.key hkey) _ _,by simp [hxk]⟩
 ·obtain ⟨c,hc,hS⟩:=h2 x xl hx;refine⟨c,(atKey_put_other hq _ _).trans hc,hS.trans ⟨.inr,fun h=>h.elim (fun e=>?_) id⟩⟩;subst e;rw [hx] at hkey;exact absurd (Option.some.inj hkey) hq
end
theorem zero_bool (w:World):(zeroValue 4).run Tryz.prog w=.ok (.bool false) w:=by kernel_rfl
theorem string_key:Keyed Tryz.prog 9:=string_keyed Tryz.underlying9
theorem keyOf_str {s:ByteArray} (hs:(s.size:Int)<=140737488351232):keyOf Tryz.prog 9 (.string s)=some (.string s.data.toList):=WideMaps.keyOf_string_mk Tryz.underlying9 (by unfold maxLen;omega)
end
section
open Go.RowKit Go.Maps
def heldR (v:Value):Option (DataW Value × List MemPlace):=some (.held v,[])
def KeyMap {κ:Type} (kt:TypeId) (key:κ->Value) (w:World) (b n:Nat) (F:κ->Option Value):Prop :=
 ∃ D:DataW Value,w.ownsMap Tryz.prog kt heldR b n D/\∀ a kl,keyOf Tryz.prog kt (key a)=some kl->Maps.has D kl=(F a).isSome/\∀ z,D.atKey kl (.held z)=.held ((F a).getD z)
section
variable {κ:Type} {kt e t:TypeId} {key:κ->Value} {w w':World} {b n:Nat} {F:κ->Option Value} {a:κ}
theorem KeyMap.made (w:World):KeyMap kt key (w.alloc (.map #[] 0)) w.heap.size 0 (fun _=>none):=⟨.map [],World.ownsMap_made w _ _ _,fun _ _ _=>⟨rfl,fun _=>rfl⟩⟩
theorem KeyMap.keeps {T:Nat->Prop} (h:KeyMap kt key w b n F) (hk:Keeps T w w') (hT:¬ T b):KeyMap kt key w' b n F:=by
 obtain ⟨D,⟨es,clock,hb,r⟩,h2⟩:=h;exact⟨D,⟨es,clock,(hk.block b (lt_of_block hb) hT).trans hb,r⟩,h2⟩
theorem KeyMap.below (h:KeyMap kt key w b n F) (hb:Below w.heap.size w w'):KeyMap kt key w' b n F:=h.keeps (Keeps.of_below hb (fun _=>False)) id
theorem KeyMap.lt (h:KeyMap kt key w b n F):b < w.heap.size:=by obtain ⟨D,h1,_⟩:=h;exact h1.lt
theorem KeyMap.kept {row:Option Nat} (h:KeyMap kt key w b n F) (hg:w.grownBy w' row) (hne:some b≠row):KeyMap kt key w' b n F:=by
 obtain ⟨D,h1,h2⟩:=h;exact⟨D,h1.kept hg hne,h2⟩
theorem KeyMap.look (h:KeyMap kt key w b n F) (K:Keyed Tryz.prog kt) (ht:Tryz.prog.underlying t=some (.map kt e)) {z:Value} (hz:(zeroValue e).run Tryz.prog w=.ok z w) {kl:Lit} (hkl:keyOf Tryz.prog kt (key a)=some kl) :
  (Instr.lookup t (.map (some b)) (key a) true).run Tryz.prog w=.ok (.tuple #[(F a).getD z,.bool (F a).isSome]) w:=by
 obtain ⟨D,h1,h3⟩:=h;obtain ⟨q1,q2⟩:=h3 a kl hkl;obtain ⟨v,ps,hrun,hv⟩:=h1.look_ok K ht hz (show heldR z=some (.held z,[]) from rfl) hkl;rw [q2 z] at hv;unfold heldR at hv;simp at hv;rw [q1,hv.1] at hrun;exact hrun
theorem KeyMap.get (h:KeyMap kt key w b n F) (K:Keyed Tryz.prog kt) (ht:Tryz.prog.underlying t=some (.map kt e)) {z:Value} (hz:(zeroValue e).run Tryz.prog w=.ok z w) {kl:Lit} (hkl:keyOf Tryz.prog kt (key a)=some kl) :
  (Instr.lookup t (.map (some b)) (key a) false).run Tryz.prog w=.ok ((F a).getD z) w:=by
 obtain ⟨D,h1,h3⟩:=h;obtain ⟨q1,q2⟩:=h3 a kl hkl;obtain ⟨v,ps,hrun,hv⟩:=h1.lookup K ht hz (show heldR z=some (.held z,[]) from rfl) hkl;rw [q2 z] at hv;unfold heldR at hv;simp at hv;rw [hv.1] at hrun;exact hrun
theorem KeyMap.store [DecidableEq κ] (h:KeyMap kt key w b n F) (K:Keyed Tryz.prog kt) (inj:∀ x y,key x=key y->x=y) (ht:Tryz.prog.underlying t=some (.map kt e)) (hn:n < maxLen) {kl:Lit} (hkl:keyOf Tryz.prog kt (key a)=some kl) (v:Value) :
  ∃ w',(Instr.mapUpdate t (.map (some b)) (key a) v).run Tryz.prog w=.ok () w'/\KeyMap kt key w' b (n+1) (fun x=>if x=a then some v else F x)/\w.grownBy w' (some b):=by
 obtain ⟨D,h1,h3⟩:=h;obtain ⟨w',hrun,q1,q2⟩:=h1.update K ht hn hkl (show heldR v=some (.held v,[]) from rfl);refine⟨w',hrun,⟨_,q1,fun x xl hx=>?_⟩,q2⟩
 by_cases hq:xl=kl
 ·subst hq;have hxa:x=a:=inj _ _ (K.inj hx hkl);simp only [if_pos hxa];exact⟨has_put_same h1.isMap (K.key hkl) _,fun z=>atKey_put_same h1.isMap (K.key hkl) _ _⟩
 ·have hne:x≠a:=fun e=>by subst e;rw [hx] at hkl;exact hq (Option.some.inj hkl)
  simp only [if_neg hne];obtain ⟨r1,r2⟩:=h3 x xl hx;exact⟨(has_put_other hq _).trans r1,fun z=>(atKey_put_other hq _ _).trans (r2 z)⟩
end
end
section
open Go.RowKit
section
variable {P:Program} {w:World}
theorem run_append_at (base:Nat) (t ty e:TypeId) (i:TypeInfo) (z:Value) (size bytes:Nat) (ht:P.underlying t=some (.slice e)) (hi:P.info? e=some i) (hz:i.zero=some z)
  (hsize:i.size=size) (hby:i.bytes=bytes) (hzs:z.cells.size=size) (hsz:0 < size) (v:Value) (n:Nat) (xs:List Value) (hown:w.ownsRow base e size v n xs)
  (A:Option Addr) (m c:Nat) (news:List Value) (hl:news.length=m * size) (hA:Cells w A news) (h1:∀ u ∈ news,u.oneCell'=true)
  (h63:n+m<=maxLen) (hbytes:(n+m) * bytes<=140737488355328) (hbase:base<=w.heap.size) :
  ∃ v' w',(Builtin.append_ #[t,t] ty #[v,.slice A m c]).run P w=.ok v' w'/\w'.ownsRow base e size v' (n+m) (xs ++ news)/\w.grownBy w' v.ownBlock/\(v'.ownBlock=v.ownBlock\/v'.ownBlock=some w.heap.size):=by
 have go:∀ ad:Addr,A=some ad->(∀ j u,news[j]?=some u->w.cell? (ad.add j)=some u) ->
   ∃ v' w',(Builtin.append_ #[t,t] ty #[v,.slice A m c]).run P w=.ok v' w'/\w'.ownsRow base e size v' (n+m) (xs ++ news)/\w.grownBy w' v.ownBlock/\(v'.ownBlock=v.ownBlock\/v'.ownBlock=some w.heap.size):=by
  intro ad hA hc;subst hA;obtain ⟨v',w',hr,ho,hg,_,hat⟩:=run_append_own_at (P:=P) w base t ty e i z size bytes ht hi hz hsize hby hzs hsz v n xs hown ad m c news hl hc h1 h63 hbytes hbase;exact⟨v',w',hr,ho,hg,hat⟩
 rcases hA with h0 | ⟨b,o,hA,_,hc⟩
 ·subst h0
  have hm:m=0:=by
   rcases Nat.eq_zero_or_pos m with h | h
   ·exact h
   ·simp at hl;have:=Nat.mul_pos h hsz;omega
  subst hm
  cases A with
  | some ad=>exact go ad rfl (fun j u hu=>by simp at hu)
  | none =>
   refine⟨v,w,?_,by simpa using hown,World.grownBy.refl w _,.inl rfl⟩;rcases hown.2 with⟨rfl,rfl⟩ | ⟨g,cap,cur,rfl,_,_,hnc,_⟩
   ·simp [Builtin.append_,run_underlying ht,sizeOf,typeInfo,hi,Builtin.lenOf,Builtin.firstCells]
   ·simp [Builtin.append_,run_underlying ht,sizeOf,typeInfo,hi,Builtin.lenOf,Builtin.firstCells,hnc,storeCells]
 ·refine go ⟨b,o,none⟩ hA (fun j u hu=>?_);have:((⟨b,o,none⟩:Addr).add j)=⟨b,o+j,none⟩:=by unfold Addr.add;split <;> simp_all
  rw [this];exact hc j u hu
theorem wp_append_at {o:Oper} {a:Act} {K:Act->World->Prop} {Q:Exit->Act->World->Prop} (s x:Operand) (t:TypeId)
  (ho:o.op=.call { callee:=.builtin .append,args:=#[s,x],argTypes:=#[t,t] })
  (base:Nat) (e:TypeId) (i:TypeInfo) (z:Value) (size bytes:Nat) (ht:P.underlying t=some (.slice e)) (hi:P.info? e=some i) (hz:i.zero=some z)
  (hsize:i.size=size) (hby:i.bytes=bytes) (hzs:z.cells.size=size) (hsz:0 < size) (v:Value) (n:Nat) (xs:List Value) (hs:a.eval s=v) (hown:w.ownsRow base e size v n xs)
  (A:Option Addr) (m c:Nat) (news:List Value) (hx:a.eval x=.slice A m c) (hl:news.length=m * size) (hA:Cells w A news) (h1:∀ u ∈ news,u.oneCell'=true)
  (h63:n+m<=maxLen) (hbytes:(n+m) * bytes<=140737488355328) (hbase:base<=w.heap.size)
  (h:∀ v' w',w'.ownsRow base e size v' (n+m) (xs ++ news)->w.grownBy w' v.ownBlock->(v'.ownBlock=v.ownBlock\/v'.ownBlock=some w.heap.size)->K (a.put o.dst v') w'):o.wp P a w K Q:=by
 obtain ⟨v',w',hrun,h2,h3,h4⟩:=run_append_at (P:=P) (w:=w) base t o.type e i z size bytes ht hi hz hsize hby hzs hsz v n xs hown A m c news hl hA h1 h63 hbytes hbase;unfold Oper.wp execOp;simp only [ho,resolve,invoke,builtin,Sem.run_bind,Sem.run_pure,Result.andThen_ok,List.map_toArray,List.map_cons,List.map_nil,hs,hx,hrun];exact h v' w' h2 h3 h4
theorem wpList_append_at {ops:Array Oper} {rest:List Oper} {o:Oper} {a:Act} {Q:Exit->Act->World->Prop} (hgd:o.guard=none) (s x:Operand) (t:TypeId)
  (ho:o.op=.call { callee:=.builtin .append,args:=#[s,x],argTypes:=#[t,t] })
  (base:Nat) (e:TypeId) (i:TypeInfo) (z:Value) (size bytes:Nat) (ht:P.underlying t=some (.slice e)) (hi:P.info? e=some i) (hz:i.zero=some z)
  (hsize:i.size=size) (hby:i.bytes=bytes) (hzs:z.cells.size=size) (hsz:0 < size) (v:Value) (n:Nat) (xs:List Value) (hs:a.eval s=v) (hown:w.ownsRow base e size v n xs)
  (A:Option Addr) (m c:Nat) (news:List Value) (hx:a.eval x=.slice A m c) (hl:news.length=m * size) (hA:Cells w A news) (h1:∀ u ∈ news,u.oneCell'=true)
  (h63:n+m<=maxLen) (hbytes:(n+m) * bytes<=140737488355328) (hbase:base<=w.heap.size)
  (h:∀ v' w',w'.ownsRow base e size v' (n+m) (xs ++ news)->w.grownBy w' v.ownBlock->(v'.ownBlock=v.ownBlock\/v'.ownBlock=some w.heap.size)->wpList P ops Q rest (a.put o.dst v') w'):wpList P ops Q (o :: rest) a w :=
 wpList_plain hgd fun _ hK=>wp_append_at s x t ho base e i z size bytes ht hi hz hsize hby hzs hsz v n xs hs hown A m c news hx hl hA h1 h63 hbytes hbase fun v' w' h2 h3 h4=>hK _ _ (h v' w' h2 h3 h4)
theorem step_append_at {ops:Array Oper} {o:Oper} {a:Act} {K:Act->World->Prop} {Q:Exit->Act->World->Prop} {E:Prop} (hgd:o.guard=none) (s x:Operand) (t:TypeId)
  (ho:o.op=.call { callee:=.builtin .append,args:=#[s,x],argTypes:=#[t,t] })
  (base:Nat) (e:TypeId) (i:TypeInfo) (z:Value) (size bytes:Nat) (ht:P.underlying t=some (.slice e)) (hi:P.info? e=some i) (hz:i.zero=some z)
  (hsize:i.size=size) (hby:i.bytes=bytes) (hzs:z.cells.size=size) (hsz:0 < size) (v:Value) (n:Nat) (xs:List Value) (hs:a.eval s=v) (hown:w.ownsRow base e size v n xs)
  (A:Option Addr) (m c:Nat) (news:List Value) (hx:a.eval x=.slice A m c) (hl:news.length=m * size) (hA:Cells w A news) (h1:∀ u ∈ news,u.oneCell'=true)
  (h63:n+m<=maxLen) (hbytes:(n+m) * bytes<=140737488355328) (hbase:base<=w.heap.size)
  (h:∀ v' w',w'.ownsRow base e size v' (n+m) (xs ++ news)->w.grownBy w' v.ownBlock->(v'.ownBlock=v.ownBlock\/v'.ownBlock=some w.heap.size)->K (a.put o.dst v') w') :
  if Region.wanted o (yielded ops a.tmps)=true then Oper.wp P o a w K Q else E:=by
 have hw:Region.wanted o (yielded ops a.tmps)=true:=by simp [Region.wanted,hgd]
 rw [if_pos hw];exact wp_append_at s x t ho base e i z size bytes ht hi hz hsize hby hzs hsz v n xs hs hown A m c news hx hl hA h1 h63 hbytes hbase h
end
end
section
open Go.RowKit
section
variable {P:Program} {w:World}
theorem wp_append_full {o:Oper} {a:Act} {K:Act->World->Prop} {Q:Exit->Act->World->Prop} (s x:Operand) (t:TypeId)
  (ho:o.op=.call { callee:=.builtin .append,args:=#[s,x],argTypes:=#[t,t] })
  (e:TypeId) (i:TypeInfo) (z:Value) (size bytes:Nat) (ht:P.underlying t=some (.slice e)) (hi:P.info? e=some i) (hz:i.zero=some z)
  (hsize:i.size=size) (hby:i.bytes=bytes) (hzs:z.cells.size=size) (hsz:0 < size) (b:Addr) (n cap:Nat) (olds:List Value) (hs:a.eval s=.slice (some b) n cap) (hlo:olds.length=n * size) (holds:∀ j u,olds[j]?=some u->w.cell? (b.add j)=some u)
  (ad:Addr) (m c:Nat) (news:List Value) (hx:a.eval x=.slice (some ad) m c) (hl:news.length=m * size) (hnews:∀ j u,news[j]?=some u->w.cell? (ad.add j)=some u)
  (hfull:cap < n+m) (h63:n+m<=maxLen) (hbytes:(n+m) * bytes<=140737488355328)
  (h:∀ v' w',w'.ownsRow w.heap.size e size v' (n+m) (olds ++ news)->w.grownBy w' none->K (a.put o.dst v') w'):o.wp P a w K Q:=by
 obtain ⟨v',w',hrun,h2,h3⟩:=run_append_arg_grows (P:=P) w t o.type e i z size bytes ht hi hz hsize hby hzs hsz b n cap olds hlo holds ad m c news hl hnews hfull h63 hbytes;unfold Oper.wp execOp;simp only [ho,resolve,invoke,builtin,Sem.run_bind,Sem.run_pure,Result.andThen_ok,List.map_toArray,List.map_cons,List.map_nil,hs,hx,hrun];exact h v' w' h2 h3
theorem step_append_full {ops:Array Oper} {o:Oper} {a:Act} {K:Act->World->Prop} {Q:Exit->Act->World->Prop} {E:Prop} (hgd:o.guard=none) (s x:Operand) (t:TypeId)
  (ho:o.op=.call { callee:=.builtin .append,args:=#[s,x],argTypes:=#[t,t] })
  (e:TypeId) (i:TypeInfo) (z:Value) (size bytes:Nat) (ht:P.underlying t=some (.slice e)) (hi:P.info? e=some i) (hz:i.zero=some z)
  (hsize:i.size=size) (hby:i.bytes=bytes) (hzs:z.cells.size=size) (hsz:0 < size) (b:Addr) (n cap:Nat) (olds:List Value) (hs:a.eval s=.slice (some b) n cap) (hlo:olds.length=n * size) (holds:∀ j u,olds[j]?=some u->w.cell? (b.add j)=some u)
  (ad:Addr) (m c:Nat) (news:List Value) (hx:a.eval x=.slice (some ad) m c) (hl:news.length=m * size) (hnews:∀ j u,news[j]?=some u->w.cell? (ad.add j)=some u)
  (hfull:cap < n+m) (h63:n+m<=maxLen) (hbytes:(n+m) * bytes<=140737488355328)
  (h:∀ v' w',w'.ownsRow w.heap.size e size v' (n+m) (olds ++ news)->w.grownBy w' none->K (a.put o.dst v') w') :
  if Region.wanted o (yielded ops a.tmps)=true then Oper.wp P o a w K Q else E:=by
 have hw:Region.wanted o (yielded ops a.tmps)=true:=by simp [Region.wanted,hgd]
 rw [if_pos hw];exact wp_append_full s x t ho e i z size bytes ht hi hz hsize hby hzs hsz b n cap olds hs hlo holds ad m c news hx hl hnews hfull h63 hbytes h
end
theorem row_shape {w:World} {base s n:Nat} {t:TypeId} {v:Value} {vals:List Value} (ho:w.ownsRow base t s v n vals):∃ A c,v=.slice A n c:=by
 rcases ho.2 with⟨h1,h2⟩ | ⟨g,cap,cur,h1,_⟩
 ·exact⟨none,0,by rw [h2];exact h1⟩
 ·exact⟨_,cap,h1⟩
section
variable {α:Type} {n:Nat} {R:World->List Value->α->Prop} {val:α->List Value} {w:World}
theorem rowAt_cells (hv:∀ vs x,R w vs x->vs=val x):∀ {xs:List α} {b o:Nat},RowAt n R w b o xs->∀ j u,(flatV val xs)[j]?=some u->w.cell? ⟨b,o+j,none⟩=some u
 | [],b,o,_,j,u,h=>by simp [flatV] at h
 | x :: xs,b,o,hr,j,u,h=>by
  obtain ⟨vs,h1,h2,h3⟩:=hr 0 x rfl;obtain rfl:=hv vs x h3;unfold flatV at h
  by_cases hj:j < (val x).length
  ·rw [List.getElem?_append_left hj] at h;have:=h2 j u h
   rwa [Nat.zero_mul,Nat.add_zero] at this
  ·rw [List.getElem?_append_right (by omega)] at h
   have hr':RowAt n R w b (o+n) xs:=fun i y hy=>by
    obtain ⟨vs,e1,e2,e3⟩:=hr (i+1) y (by simpa using hy);exact⟨vs,e1,fun k v hk=>by have:=e2 k v hk;rwa [show o+(i+1) * n+k=o+n+i * n+k by rw [Nat.succ_mul];omega] at this,e3⟩
   have:=rowAt_cells hv hr' _ u h
   rwa [h1,show o+n+(j - n)=o+j by omega] at this
theorem lies_cells {xs:List α} {b o:Nat} (hv:∀ vs x,R w vs x->vs=val x) (h:Lies n R w (some ⟨b,o,none⟩) xs):∀ j u,(flatV val xs)[j]?=some u->w.cell? ⟨b,o+j,none⟩=some u:=by
 rcases h with h | ⟨b',o',hA,_,hr⟩
 ·subst h;intro j u hu;simp [flatV] at hu
 ·obtain ⟨rfl,rfl⟩:=aiq hA;exact rowAt_cells hv hr
theorem owns_lies' {base k:Nat} {t:TypeId} {A:Option Addr} {c:Nat} {xs:List α} (hv:∀ x,(val x).length=n) (hR:∀ W x,x ∈ xs->R W (val x) x) (ho:w.ownsRow base t n (.slice A k c) xs.length (flatV val xs)) {W:World} (hW:∀ b,base<=b->b < w.heap.size->W.heap[b]?=w.heap[b]?):Lies n R W A xs:=by
 rcases ho.2 with⟨h1,h2⟩ | ⟨g,cap,cur,h1,hg,hat,h2,h3,h4,h5⟩
 ·exact .inl (List.length_eq_zero_iff.1 h2)
 ·simp only [Value.slice.injEq] at h1;have hat':=(hW g hg (lt_of_block hat)).trans hat;refine .inr ⟨g,0,h1.1,lt_of_block hat',fun i x hx=>⟨val x,hv x,fun j u hu=>?_,hR W x (mgq hx)⟩⟩;rw [Nat.zero_add,cell_of_row W g (i * n+j) cur t (0,0) hat'];have:=flatV_at hv xs i x hx j u hu;rw [← h5,List.getElem?_take] at this
  split at this
  ·simpa using this
  ·cases this
end
end
section
open Go.RowKit
noncomputable def eqB {α:Type} (a b:α):Bool:=@decide (a=b) (Classical.propDecidable _)
theorem eqB_true {α:Type} {a b:α}:eqB a b=true ↔ a=b:=@decide_eq_true_iff (a=b) (Classical.propDecidable _)
theorem eqB_false {α:Type} {a b:α}:eqB a b=false ↔ a≠b:=@decide_eq_false_iff_not (a=b) (Classical.propDecidable _)
section
variable {α:Type} {xs ys:List α} {k:Nat} {d:α}
theorem eqB_len (h:¬ xs.length=ys.length):eqB xs ys=false:=eqB_false.2 fun e=>h (by rw [e])
theorem eqB_full (h:xs.length=ys.length) (ht:xs.take xs.length=ys.take xs.length):eqB xs ys=true :=
 eqB_true.2 (by rw [List.take_length,h,List.take_length] at ht;exact ht)
theorem eqB_next {x y:α} (hx:xs[k]?=some x) (hy:ys[k]?=some y):(x=y->xs.take k=ys.take k->xs.take (k+1)=ys.take (k+1))/\(x≠y->eqB xs ys=false):=by
 constructor
 ·intro h1 h2;rw [List.take_add_one,List.take_add_one,hx,hy,h1,h2]
 ·intro h;exact eqB_false.2 fun e=>h (by rw [e,hy] at hx;exact(Option.some.inj hx).symm)
end
theorem cells_get {w:World} {A:Option Addr} {l:List Int} (h:Cells w A (l.map (Value.int .i64))) {k:Nat} (hk:k < l.length):∃ b o,A=some ⟨b,o,none⟩/\w.cell? ⟨b,o+k,none⟩=some (.int .i64 (l.getD k 0)):=by
 rcases h with h | ⟨b,o,hA,_,hc⟩
 ·have:=congrArg List.length h;simp at this;subst this;simp at hk
 ·refine⟨b,o,hA,hc k _ ?_⟩;rw [List.getElem?_map,List.getD_eq_getElem?_getD,gqe hk]
  rfl
end
section
open Go.RowKit Go.Maps
theorem many_types:∃ m,Tryz.prog.types.size=m+2:=⟨Tryz.prog.types.size - 2,by kernel_rfl⟩
theorem name_wide:Tryz.prog.keyType 132=true:=by kernel_rfl
theorem cName:Tryz.prog.cellsOf 132=2:=by kernel_rfl
theorem name_key:Keyed Tryz.prog 132:=Keyed.of_law (deep_law_gate laidOut (of_decide_eq_true (by kernel_rfl)) (of_decide_eq_true (by kernel_rfl)) name_wide (by kernel_rfl))
theorem keyOf_name {s:ByteArray} (hs:(s.size:Int)<=140737488351232) (b:Bool):∃ kl,keyOf Tryz.prog 132 (.agg #[.string s,.bool b])=some kl:=by
 obtain ⟨m,hm⟩:=many_types;have hs2:s.size<=maxLen:=by unfold maxLen;omega
 have c1:Tryz.prog.cellsOf 9=1:=by kernel_rfl
 have c2:Tryz.prog.cellsOf 4=1:=by kernel_rfl
 unfold keyOf;simp only [Tryz.underlying132];rw [if_pos (by simp [name_wide,Value.formed,Tryz.underlying132,cName]),hm];simp [Program.keyLits,Tryz.underlying132,Tryz.underlying9,Tryz.underlying4,cName,c1,c2,Value.cells,hs2]
theorem wf_i64 {n:Int} (h:I64 n):(Lit.int .i64 n).wf=true:=WalkArith.wf_i64 h
end
section
open Go.RowKit
theorem may_any (n:Int) (h:I64 n) (w:World) :
  Calls Tryz.prog 113 #[.int .i64 n] w fun e w'=>e=.returned (.bool (mayB n))/\w=w':=by
 have h1:=h.lo;have h2:=h.hi;clear h
 go_enter Tryz.func113,Tryz.ntmps113
 go_wp2
 all_goals go_ret
 all_goals refine⟨ret_bool ?_,rfl⟩
 ·symm;rw [mayB_iff];omega
 ·symm;rw [mayB_iff];omega
 ·rw [Bool.eq_iff_iff,mayB_iff];simp;omega
end
section
open Go.RowKit Go.Maps
def KeyMapN {κ:Type} (kt:TypeId) (key:κ->Value) (w:World) (b n m:Nat) (F:κ->Option Value):Prop :=
 ∃ D:DataW Value,w.ownsMap Tryz.prog kt heldR b n D/\Maps.size D=m/\∀ a kl,keyOf Tryz.prog kt (key a)=some kl->Maps.has D kl=(F a).isSome/\∀ z,D.atKey kl (.held z)=.held ((F a).getD z)
section
variable {κ:Type} {kt e t:TypeId} {key:κ->Value} {w w':World} {b n m:Nat} {F:κ->Option Value} {a:κ}
theorem KeyMapN.made (w:World):KeyMapN kt key (w.alloc (.map #[] 0)) w.heap.size 0 0 (fun _=>none):=⟨.map [],World.ownsMap_made w _ _ _,rfl,fun _ _ _=>⟨rfl,fun _=>rfl⟩⟩
theorem KeyMapN.keeps {T:Nat->Prop} (h:KeyMapN kt key w b n m F) (hk:Keeps T w w') (hT:¬ T b):KeyMapN kt key w' b n m F:=by
 obtain ⟨D,⟨es,clock,hb,r⟩,h2⟩:=h;exact⟨D,⟨es,clock,(hk.block b (lt_of_block hb) hT).trans hb,r⟩,h2⟩
theorem KeyMapN.below (h:KeyMapN kt key w b n m F) (hb:Below w.heap.size w w'):KeyMapN kt key w' b n m F:=h.keeps (Keeps.of_below hb (fun _=>False)) id
theorem KeyMapN.lt (h:KeyMapN kt key w b n m F):b < w.heap.size:=by obtain ⟨D,h1,_⟩:=h;exact h1.lt
theorem KeyMapN.plain (h:KeyMapN kt key w b n m F):KeyMap kt key w b n F:=by obtain ⟨D,h1,_,h3⟩:=h;exact⟨D,h1,h3⟩
theorem KeyMapN.imp {F':κ->Option Value} {m':Nat} (h:KeyMapN kt key w b n m F) (hm:m=m') (hF:∀ a,F a=F' a):KeyMapN kt key w b n m' F':=by
 obtain ⟨D,h1,h2,h3⟩:=h;exact⟨D,h1,h2.trans hm,fun a kl hk=>by rw [← hF];exact h3 a kl hk⟩
theorem KeyMapN.len (h:KeyMapN kt key w b n m F) (ht:Tryz.prog.underlying t=some (.map kt e)) (ty:TypeId):(Builtin.len_ #[t] ty #[.map (some b)]).run Tryz.prog w=.ok (.int .i64 m) w:=by
 obtain ⟨D,h1,h2,_⟩:=h;rw [← h2];exact h1.len ht ty
theorem KeyMapN.store [DecidableEq κ] (h:KeyMapN kt key w b n m F) (K:Keyed Tryz.prog kt) (inj:∀ x y,key x=key y->x=y) (ht:Tryz.prog.underlying t=some (.map kt e)) (hn:n < maxLen) {kl:Lit} (hkl:keyOf Tryz.prog kt (key a)=some kl) (v:Value) :
  ∃ w',(Instr.mapUpdate t (.map (some b)) (key a) v).run Tryz.prog w=.ok () w'/\KeyMapN kt key w' b (n+1) (if(F a).isSome then m else m+1) (fun x=>if x=a then some v else F x)/\w.grownBy w' (some b):=by
 obtain ⟨D,h1,h2,h3⟩:=h;obtain ⟨w',hrun,q1,q2⟩:=h1.update K ht hn hkl (show heldR v=some (.held v,[]) from rfl);refine⟨w',hrun,⟨_,q1,?_,fun x xl hx=>?_⟩,q2⟩
 ·rw [size_put (h1.tidy K),(h3 a kl hkl).1,h2]
 by_cases hq:xl=kl
 ·subst hq;have hxa:x=a:=inj _ _ (K.inj hx hkl);simp only [if_pos hxa];exact⟨has_put_same h1.isMap (K.key hkl) _,fun z=>atKey_put_same h1.isMap (K.key hkl) _ _⟩
 ·have hne:x≠a:=fun e=>by subst e;rw [hx] at hkl;exact hq (Option.some.inj hkl)
  simp only [if_neg hne];obtain ⟨r1,r2⟩:=h3 x xl hx;exact⟨(has_put_other hq _).trans r1,fun z=>(atKey_put_other hq _ _).trans (r2 z)⟩
end
end
section
open Go.RowKit
structure Grows {α:Type} (n:Nat) (R:World->List Value->α->Prop) (t:TypeId) (w0:World) (base:Nat) (w:World) (v:Value) (xs:List α):Prop where
 row:∃ vals,w.ownsRow base t n v xs.length vals/\∀ i x,xs[i]?=some x->∃ vs:List Value,vs.length=n/\R w0 vs x/\∀ j u,vs[j]?=some u->vals[i * n+j]?=some u
section
variable {α:Type} {n:Nat} {R:World->List Value->α->Prop} {t:TypeId} {w0 w w':World} {base:Nat} {v:Value} {xs:List α}
theorem Grows.nil (w:World):Grows n R t w0 base w (.slice none 0 0) ([]:List α):=⟨[],⟨by simp,.inl ⟨rfl,rfl⟩⟩,fun i x hx=>by simp at hx⟩
theorem Grows.shape (h:Grows n R t w0 base w v xs):∃ A c,v=.slice A xs.length c/\xs.length<=c/\c<=maxLen:=by
 obtain ⟨vals,ho,_⟩:=h.row;rcases ho.2 with⟨h1,h2⟩ | ⟨g,cap,cur,h1,_,_,h2,h3,_⟩
 ·exact⟨none,0,by rw [h2];exact h1,by omega,by unfold maxLen;omega⟩
 ·exact⟨_,cap,h1,h2,h3⟩
theorem Grows.lt (h:Grows n R t w0 base w v xs):∀ k,v.ownBlock=some k->base<=k/\k < w.heap.size:=by
 obtain ⟨vals,ho,_⟩:=h.row;exact ho.lt
theorem Grows.lies {A:Option Addr} {c:Nat} (hR:Lasts R) (hb:Below w0.heap.size w0 w) (h:Grows n R t w0 base w (.slice A xs.length c) xs):Lies n R w A xs:=by
 obtain ⟨vals,ho,hr⟩:=h.row;rcases ho.2 with⟨h1,h2⟩ | ⟨g,cap,cur,h1,hg,hat,h2,h3,h4,h5⟩
 ·exact .inl (List.length_eq_zero_iff.1 h2)
 ·simp only [Value.slice.injEq] at h1;refine .inr ⟨g,0,h1.1,(Array.getElem?_eq_some_iff.1 hat).1,fun i x hx=>?_⟩;obtain ⟨vs,e1,e2,e3⟩:=hr i x hx;refine⟨vs,e1,fun j u hu=>?_,hR _ _ _ _ hb e2⟩;rw [Nat.zero_add,cell_of_row w g (i * n+j) cur t (0,0) hat];have:=e3 j u hu;rw [← h5,List.getElem?_take] at this
  split at this
  ·simpa using this
  ·cases this
theorem Grows.kept {row:Option Nat} (h:Grows n R t w0 base w v xs) (hg:w.grownBy w' row) (hne:v.ownBlock=none\/v.ownBlock≠row):Grows n R t w0 base w' v xs:=by
 obtain ⟨vals,ho,hr⟩:=h.row;exact⟨vals,ho.kept hg hne,hr⟩
theorem grown_of_below (hb:Below w.heap.size w w'):w.grownBy w' none:=⟨hb.os,hb.tape,hb.output,hb.size,fun k hk _=>hb.block k hk⟩
theorem Grows.below (h:Grows n R t w0 base w v xs) (hb:Below w.heap.size w w'):Grows n R t w0 base w' v xs :=
 h.kept (grown_of_below hb) (by cases v.ownBlock <;> simp)
theorem Grows.alloc (h:Grows n R t w0 base w v xs) (o:Obj):Grows n R t w0 base (w.alloc o) v xs:=h.kept (World.grownBy_alloc w o none) (by cases v.ownBlock <;> simp)
theorem Grows.setCell (h:Grows n R t w0 base w v xs) {p:Addr} (u:Value) (hp:p.block < base):Grows n R t w0 base (w.setCell p u) v xs:=by
 obtain ⟨vals,ho,hr⟩:=h.row;refine⟨vals,⟨ho.1,?_⟩,hr⟩;rcases ho.2 with h1 | ⟨g,cap,cur,h1,h2,h3,h4⟩
 ·exact .inl h1
 ·exact .inr ⟨g,cap,cur,h1,h2,(Below.heap_setCell w p u g (by omega)).trans h3,h4⟩
theorem Grows.push {v':Value} {vals vs:List Value} {x:α} (hl:vals.length=xs.length * n) (hr:∀ i x,xs[i]?=some x->∃ vs:List Value,vs.length=n/\R w0 vs x/\∀ j u,vs[j]?=some u->vals[i * n+j]?=some u)
  (ho:w'.ownsRow base t n v' (xs.length+1) (vals ++ vs)) (hx:R w0 vs x) (hvs:vs.length=n):Grows n R t w0 base w' v' (xs ++ [x]):=by
 refine⟨vals ++ vs,by rw [List.length_append];exact ho,fun i y hy=>?_⟩
 by_cases hi:i < xs.length
 ·rw [List.getElem?_append_left hi] at hy;obtain ⟨us,e1,e2,e3⟩:=hr i y hy;refine⟨us,e1,e2,fun j u hu=>?_⟩;have:=e3 j u hu;rw [List.getElem?_append_left (gqs this).1];exact this
 ·have hi':i=xs.length:=by
   have:=(gqs hy).1;simp at this;omega
  subst hi';simp at hy;subst hy;refine⟨vs,hvs,hx,fun j u hu=>?_⟩;rw [List.getElem?_append_right (by rw [hl];omega),hl,show xs.length * n+j - xs.length * n=j by omega];exact hu
end
end
section
open Go.RowKit
theorem isNum_iff {l:List UInt8}:isNum l=true ↔ l≠[]/\(1 < l.length->l.getD 0 0≠48)/\(∀ c ∈ l,isDig c=true):=by
 unfold isNum
 cases l with
 | nil=>simp
 | cons a l =>
  simp only [List.isEmpty_cons,Bool.not_false,Bool.true_and,Bool.and_eq_true,List.all_eq_true,Bool.not_eq_true',Bool.and_eq_false_iff,decide_eq_false_iff_not,beq_eq_false_iff_ne,ne_eq,reduceCtorEq,not_false_eq_true,true_and]
  constructor
  ·rintro ⟨h1,h2⟩;exact⟨fun h=>by rcases h1 with h1 | h1;exact absurd h h1;exact h1,h2⟩
  ·rintro ⟨h1,h2⟩;refine⟨?_,h2⟩
   by_cases h:1 < (a :: l).length
   ·exact .inr (h1 h)
   ·exact .inl h
def TabOk (w : World) : Prop := Lib.TabIs Tryz.prog w "internal/strconv.uint64pow10" .u64 Lib.pow10Tab
theorem gTab : Tryz.prog.globalNamed "internal/strconv.uint64pow10" = some 1 := by kernel_rfl
theorem TabOk.keep {w w':World} (h:TabOk w) (hk:w'.heap[1]?=w.heap[1]?):TabOk w':=by
 unfold TabOk Lib.TabIs World.var? at *;rw [gTab] at *;simp only [Option.bind_some] at *;rw [hk];exact h
theorem TabOk.lt {w:World} (h:TabOk w):1 < w.heap.size:=by
 unfold TabOk Lib.TabIs World.var? at h;rw [gTab] at h;simp only [Option.bind_some] at h;rcases Nat.lt_or_ge 1 w.heap.size with h1 | h1
 ·exact h1
 ·rw [Array.getElem?_eq_none h1] at h;cases h
theorem TabOk.on {w w':World} (h:TabOk w) (hb:Below w.heap.size w w'):TabOk w':=h.keep (hb.block _ h.lt)
theorem grow_below (w:World) (k:Nat) (os:Array Obj):Below w.heap.size w (Go.Sort.grow (w.drewN k) os) :=
 ⟨rfl,rfl,rfl,by simp [Go.Sort.grow,World.drewN],fun i hi=>by
  show(w.heap ++ os)[i]?=_;rw [Array.getElem?_append_left hi]⟩
theorem itoa_any (n:Int) (hn:I64 n) (w:World) (ht:TabOk w) :
  Calls Tryz.prog 118 #[.int .i64 n] w fun e w'=>e=.returned (.string ⟨(Lib.itoa n).toArray⟩)/\Below w.heap.size w w' :=
 (Tryz.strconv_Itoa n hn.1 hn.2 w ht).mono fun _ _ ⟨he,k,os,hw⟩=>⟨he,by rw [hw];exact grow_below w k os⟩
def textL (n:Int):List UInt8:=if mayB n then(if n < 0 then [40,45,32] ++ Lib.itoa (-n) ++ [41] else Lib.itoa n) else []
def textE (n:Int):Int:=if mayB n then 0 else 10
theorem text_neg {n:Int} (hm:mayB n=true) (h:n < 0):textL n=[40,45,32] ++ Lib.itoa (-n) ++ [41]/\textE n=0:=by simp [textL,textE,hm,h]
theorem text_pos {n:Int} (hm:mayB n=true) (h:¬ n < 0):textL n=Lib.itoa n/\textE n=0:=by simp [textL,textE,hm,h]
theorem text_no {n:Int} (hm:mayB n=false):textL n=[]/\textE n=10:=by simp [textL,textE,hm]
theorem text_any (n:Int) (hn:I64 n) (w:World) (ht:TabOk w) :
  Calls Tryz.prog 76 #[.int .i64 n] w fun e w'=>e=.returned (.tuple #[.string ⟨(textL n).toArray⟩,.int .i64 (textE n)])/\Below w.heap.size w w':=by
 have HT:=kp ht;clear ht
 cases hm:mayB n with
 | true =>
  have hb:=mayB_iff.1 hm;obtain ⟨hb0,hb1⟩:=hb
  by_cases h0:n < 0
  ·have HX:=kp (text_neg hm h0);have HM:=kp hm;clear hm
   go_enter Tryz.func76,Tryz.ntmps76
   go_wp2_with (go_at_call 113;refine(may_any n hn _).mono ?_;rw [HM.out];rintro e w' ⟨rfl,rfl⟩)
   refine(itoa_any (-n) ⟨by omega,by omega⟩ w HT.out).mono ?_;rintro e w1 ⟨rfl,hb⟩;have HB:=kp hb;clear hb;have hlen:=Lib.itoa_length_le (-n) (by omega) (by omega);generalize Lib.itoa (-n)=L at *;go_wp2_with fail
   have hx:=HX.out;go_ret2;exact⟨pair_str_int ⟨by rw [hx.1];show ByteArray.mk [40,45,32].toArray ++ ByteArray.mk L.toArray ++ ByteArray.mk [41].toArray=_;rw [ByteArray.mk_append_mk,ByteArray.mk_append_mk],hx.2.symm⟩,HB.out⟩
  ·have HX:=kp (text_pos hm h0);have HM:=kp hm;clear hm
   go_enter Tryz.func76,Tryz.ntmps76
   go_wp2_with (go_at_call 113;refine(may_any n hn _).mono ?_;rw [HM.out];rintro e w' ⟨rfl,rfl⟩)
   refine(itoa_any n hn w HT.out).mono ?_;rintro e w1 ⟨rfl,hb⟩;have HB:=kp hb;clear hb;go_wp2_with fail
   have hx:=HX.out;go_ret2;exact⟨pair_str_int ⟨by rw [hx.1],hx.2.symm⟩,HB.out⟩
 | false =>
  have HX:=kp (text_no hm);have HM:=kp hm;clear hm
  go_enter Tryz.func76,Tryz.ntmps76
  go_wp2_with (go_at_call 113;refine(may_any n hn _).mono ?_;rw [HM.out];rintro e w' ⟨rfl,rfl⟩)
  have hx:=HX.out;go_ret2;exact⟨pair_str_int ⟨by rw [hx.1],hx.2.symm⟩,Below.refl _ _⟩
theorem dig16 {c:UInt8} (h:isDig c=true):(c.toNat:Int) % 16=(c.toNat:Int) - 48:=by
 have:=isDig_iff.1 h;omega
theorem ofNat_dig {d:Nat} (h:d < 10):isDig (UInt8.ofNat (48+d))=true/\((UInt8.ofNat (48+d)).toNat:Int)=48+d:=by
 have e:(UInt8.ofNat (48+d)).toNat=48+d:=by rw [UInt8.toNat_ofNat',Nat.mod_eq_of_lt (by omega)]
 refine⟨isDig_iff.2 (by rw [e];omega),by rw [e];omega⟩
theorem put_digits (a:Nat) (h:(a:Int)<=4611686018427387904) :
  isNum (Lib.decDigits a)=true/\putAll (0,false) (Lib.decDigits a)=((a:Int),false)/\(1<=a->(Lib.decDigits a).getD 0 0≠48):=by
 induction a using Nat.strongRecOn with
 | _ a ih =>
  by_cases h10:a < 10
  ·have hd:=ofNat_dig h10;rw [Lib.decDigits_one h10];refine⟨isNum_iff.2 ⟨by simp,fun h=>by simp at h,fun c hc=>by simp only [List.mem_singleton] at hc;rw [hc];exact hd.1⟩,?_,?_⟩
   ·have e:putAll (0,false) [UInt8.ofNat (48+a)]=putN (0,false) (((UInt8.ofNat (48+a)).toNat:Int) % 16):=rfl;rw [e,dig16 hd.1,hd.2];unfold putN;rw [if_neg (by simp;omega)];simp;omega
   ·intro h1 h48
    have:((UInt8.ofNat (48+a)).toNat:Int)=48:=by
     have e2:UInt8.ofNat (48+a)=48:=by simpa using h48
     rw [e2];rfl
    rw [hd.2] at this;omega
  ·obtain ⟨i1,i2,i3⟩:=ih (a / 10) (by omega) (by omega);have hd:=ofNat_dig (d:=a % 10) (by omega);have e:Lib.decDigits a=Lib.decDigits (a / 10) ++ [UInt8.ofNat (48+a % 10)]:=by rw [Lib.decDigits,dif_neg h10]
   obtain ⟨n1,n2,n3⟩:=isNum_iff.1 i1
   have hg:(Lib.decDigits a).getD 0 0=(Lib.decDigits (a / 10)).getD 0 0:=by
    rw [e]
    cases hx:Lib.decDigits (a / 10) with
    | nil=>exact absurd hx n1
    | cons x r=>rfl
   have i4:=i3 (by omega);refine⟨isNum_iff.2 ⟨by rw [e];simp,fun _=>by rw [hg];exact i4,fun c hc=>?_⟩,?_,fun _=>by rw [hg];exact i4⟩
   ·rw [e] at hc;rcases List.mem_append.1 hc with h1 | h1
    ·exact n3 c h1
    ·simp only [List.mem_singleton] at h1;rw [h1];exact hd.1
   ·rw [e,putAll_snoc,i2,dig16 hd.1,hd.2];unfold putN;rw [if_neg (by simp;omega)];simp only [Prod.mk.injEq,and_true]
    omega
theorem parse_of_text {a:Int} (hm:mayB a=true) (h0:0<=a):parseV (textL a)=a/\parseE (textL a)=0:=by
 have hb:=mayB_iff.1 hm;obtain ⟨k,rfl⟩:=Int.eq_ofNat_of_zero_le h0;have ht:=text_pos hm (by omega);rw [ht.1,Lib.itoa_nonneg];obtain ⟨h1,h2,_⟩:=put_digits k hb.2;have h3:=parse_fits h1 (by rw [h2]);rw [h3.1,h3.2,h2];exact⟨rfl,rfl⟩
end
namespace Lx
open Go.RowKit
theorem plain_any (s:ByteArray) (w:World) (hs:(s.size:Int)<=9223372036854775807) :
  Calls Tryz.prog 78 #[.string s] w fun e w'=>e=.returned (.bool (plainB (bs s)))/\w=w':=by
 have HA:=kp (all_sign s w hs);have HR:=kp (reserved_any s w);have HM:=kp (show plainB (bs s)=(!(bs s).isEmpty && decide (s.size<=100) && ((bs s).all fun c=>signI c.toNat) && !digitI ((bs s).getD 0 0).toNat && !resB (bs s)) by unfold plainB;rw [bs_length])
 by_cases h0:0 < s.size
 ·have hne:s.toList.isEmpty=false:=by rw [bs_toList,List.isEmpty_eq_false_iff,← List.length_pos_iff,bs_length];exact h0
  have hne2:(bs s).isEmpty=false:=by rw [← bs_toList];exact hne
  have e0:(bs s).getD 0 0=s[0]:=by rw [List.getD_eq_getElem?_getD,bs_at h0];rfl
  rw [e0,hne2] at HM;have h0':(0:Int) < (s.size:Int):=by omega
  have HD:=kp (digit_any (s[0].toNat:Int) w (by omega) (by have:=s[0].toNat_lt;omega));generalize digitI (s[0].toNat:Int)=d at *;generalize ((bs s).all fun c=>signI c.toNat)=b at *;generalize resB (bs s)=r at *;clear e0 hne2
  by_cases h1:s.size<=100
  ·have h:(s.size:Int)<=100:=by omega
   cases b with
   | false =>
    go_enter Tryz.func78,Tryz.ntmps78
    go_wp2_with fail
    refine HA.out.mono ?_;rintro e w' ⟨rfl,rfl⟩;go_wp2_with fail
    go_ret;exact⟨ret_bool (by rw [HM.out];simp),rfl⟩
   | true =>
    cases d with
    | true =>
     go_enter Tryz.func78,Tryz.ntmps78
     go_wp2_with fail
     refine HA.out.mono ?_;rintro e w' ⟨rfl,rfl⟩;go_wp2_with fail
     refine HD.out.mono ?_;rintro e w' ⟨rfl,rfl⟩;go_wp2_with fail
     go_ret;exact⟨ret_bool (by rw [HM.out];simp),rfl⟩
    | false =>
     go_enter Tryz.func78,Tryz.ntmps78
     go_wp2_with fail
     refine HA.out.mono ?_;rintro e w' ⟨rfl,rfl⟩;go_wp2_with fail
     refine HD.out.mono ?_;rintro e w' ⟨rfl,rfl⟩;go_wp2_with fail
     refine HR.out.mono ?_;rintro e w' ⟨rfl,rfl⟩;go_wp2_with fail
     go_ret;exact⟨ret_bool (by rw [HM.out];simp [h1]),rfl⟩
  ·have h:decide ((s.size:Int)<=100)=false:=dfq (by omega)
   go_enter Tryz.func78,Tryz.ntmps78
   go_wp2_with fail
   go_ret;exact⟨ret_bool (by rw [HM.out];simp [h1]),rfl⟩
 ·have hz:s.size=0:=by omega
  have hb:bs s=[]:=List.length_eq_zero_iff.1 (by rw [bs_length];exact hz);have hne:s.toList=[]:=by rw [bs_toList];exact hb
  have HB:=kp (show plainB (bs s)=false by rw [hb];rfl);clear hb hz h0
  go_enter Tryz.func78,Tryz.ntmps78
  go_wp2_with fail
  go_ret;exact⟨ret_bool HB.out.symm,rfl⟩
theorem quote_any (s:ByteArray) (w:World) (hs:(s.size:Int)<=140737488351232) :
  Calls Tryz.prog 45 #[.string s] w fun e w'=>e=.returned (.string (quoteS s))/\w=w':=by
 have HP:=kp (plain_any s w (by omega));have HR:=kp (reserved_any s w);have HM:=kp (show quoteS s=if plainB (bs s) || resB (bs s) then s else { data:=#[124] } ++ s ++ { data:=#[124] } from rfl);generalize plainB (bs s)=p at *;generalize resB (bs s)=r at *
 cases p with
 | true =>
  go_enter Tryz.func45,Tryz.ntmps45
  go_wp2_with fail
  refine(HP.out).mono ?_;rintro e w' ⟨rfl,rfl⟩;go_wp2_with fail
  go_ret;exact⟨by rw [HM.out];rfl,rfl⟩
 | false =>
  cases r with
  | true =>
   go_enter Tryz.func45,Tryz.ntmps45
   go_wp2_with fail
   refine(HP.out).mono ?_;rintro e w' ⟨rfl,rfl⟩;go_wp2_with fail
   refine(HR.out).mono ?_;rintro e w' ⟨rfl,rfl⟩;go_wp2_with fail
   go_ret;exact⟨by rw [HM.out];rfl,rfl⟩
  | false =>
   go_enter Tryz.func45,Tryz.ntmps45
   go_wp2_with fail
   refine(HP.out).mono ?_;rintro e w' ⟨rfl,rfl⟩;go_wp2_with fail
   refine(HR.out).mono ?_;rintro e w' ⟨rfl,rfl⟩;go_wp2_with fail
   go_ret;exact⟨by rw [HM.out];rfl,rfl⟩
end Lx
section
open Go.RowKit
structure IRow (base:Nat) (w:World) (v:Value) (xs:List Int):Prop where
 own:w.ownsRow base 3 1 v xs.length (xs.map (Value.int .i64))
section
variable {base:Nat} {w w':World} {v:Value} {xs:List Int}
theorem IRow.nil (base:Nat) (w:World):IRow base w (.slice none 0 0) []:=⟨by simp,.inl ⟨rfl,rfl⟩⟩
theorem IRow.shape (h:IRow base w v xs):∃ A c,v=.slice A xs.length c/\xs.length<=c/\c<=maxLen:=by
 rcases h.own.2 with⟨h1,h2⟩ | ⟨g,cap,cur,h1,_,_,h2,h3,_⟩
 ·exact⟨none,0,by rw [h2];exact h1,by omega,by unfold maxLen;omega⟩
 ·exact⟨_,cap,h1,h2,h3⟩
theorem IRow.mono {b2:Nat} (h:IRow base w v xs) (hb:b2<=base):IRow b2 w v xs:=by
 refine⟨h.own.1,?_⟩;rcases h.own.2 with h1 | ⟨g,cap,cur,h1,hg,h2⟩
 ·exact .inl h1
 ·exact .inr ⟨g,cap,cur,h1,by omega,h2⟩
theorem IRow.lt (h:IRow base w v xs):∀ g,v.ownBlock=some g->base<=g/\g < w.heap.size:=h.own.lt
theorem IRow.same (h:IRow base w v xs) (hs:SameIn base w.heap.size w w'):IRow base w' v xs:=by
 refine⟨h.own.1,?_⟩;rcases h.own.2 with h1 | ⟨g,cap,cur,h1,hg,hat,h2⟩
 ·exact .inl h1
 ·exact .inr ⟨g,cap,cur,h1,hg,(hs g hg (lt_of_block hat)).trans hat,h2⟩
theorem IRow.keep {S:Nat->Prop} (h:IRow base w v xs) (hk:Keeps S w w') (hS:∀ b,S b->b < base):IRow base w' v xs:=h.same (SameIn.keeps hk nlq (fun b a _ hs=>by have:=hS b hs;omega))
theorem IRow.below (h:IRow base w v xs) (hb:Below w.heap.size w w'):IRow base w' v xs:=h.same (SameIn.of_below hb nlq)
theorem IRow.at' {A:Option Addr} {n c:Nat} (h:IRow base w (.slice A n c) xs) (h0:0 < xs.length):∃ g,A=some ⟨g,0,none⟩/\base<=g/\g < w.heap.size/\∀ j x,xs[j]?=some x->w.cell? ⟨g,j,none⟩=some (.int .i64 x):=by
 rcases h.own.2 with⟨h1,h2⟩ | ⟨g,cap,cur,h1,hg,hat,h2,h3,h4,h5⟩
 ·omega
 ·simp only [Value.slice.injEq] at h1;refine⟨g,h1.1,hg,lt_of_block hat,fun j x hx=>?_⟩;rw [cell_of_row w g j cur 3 (0,0) hat];have:(xs.map (Value.int .i64))[j]?=some (.int .i64 x):=by rw [List.getElem?_map,hx];rfl
  rw [← h5,List.getElem?_take] at this
  split at this
  ·simpa using this
  ·cases this
theorem IRow.cells {A:Option Addr} {n c:Nat} (h:IRow base w (.slice A n c) xs):Cells w A (xs.map (Value.int .i64)):=by
 by_cases h0:0 < xs.length
 ·obtain ⟨g,rfl,_,hl,hc⟩:=h.at' h0;refine .inr ⟨g,0,rfl,hl,fun j u hu=>?_⟩;rw [List.getElem?_map] at hu
  cases hx:xs[j]? with
  | none=>rw [hx] at hu;cases hu
  | some x =>
   rw [hx] at hu;obtain rfl:Value.int .i64 x=u:=by simpa using hu
   rw [Nat.zero_add];exact hc j x hx
 ·exact .inl (by rw [List.map_eq_nil_iff];exact List.length_eq_zero_iff.1 (by omega))
theorem int_cells {b:Nat} {x:Int} (h:w.heap[b]?=some (.cells #[.int .i64 x] 3 (0,0))):Cells w (some ⟨b,0,none⟩) [.int .i64 x]:=by
 obtain ⟨c0,_⟩:=Bk.c1 h;refine .inr ⟨b,0,rfl,lt_of_block h,fun j u hu=>?_⟩
 match j,hu with
 | 0,hu=>cases hu;exact c0
 | j+1,hu=>simp at hu
theorem IRow.of_owns {v':Value} {x:Int} (ho:w'.ownsRow base 3 1 v' (xs.length+1) (xs.map (Value.int .i64) ++ [.int .i64 x])):IRow base w' v' (xs ++ [x]):=⟨by
 rw [List.length_append,List.map_append];exact ho⟩
theorem push_int {ops:Array Oper} {rest:List Oper} {o:Oper} {a:Act} {Q:Exit->Act->World->Prop} (hgd:o.guard=none) (s x:Operand) (ho:o.op=.call { callee:=.builtin .append,args:=#[s,x],argTypes:=#[45,45] })
  {A:Option Addr} {c b n:Nat} {u:Int} (hn:xs.length=n) (hs:a.eval s=.slice A n c) (h:IRow base w (.slice A n c) xs) (hx:a.eval x=.slice (some ⟨b,0,none⟩) 1 1) (hb:w.heap[b]?=some (.cells #[.int .i64 u] 3 (0,0))) (hlen:n < 8000000000000) (hbase:base<=w.heap.size)
  (hK:∀ A9 c9 w9,IRow base w9 (.slice A9 (n+1) c9) (xs ++ [u])->w.grownBy w9 (Value.slice A n c).ownBlock->wpList Tryz.prog ops Q rest (a.put o.dst (.slice A9 (n+1) c9)) w9):wpList Tryz.prog ops Q (o :: rest) a w:=by
 subst hn;obtain ⟨i0,hi0,z0,z1,z2⟩:=info_parts info_int;refine wpList_append_at hgd s x _ ho base 3 i0 (.int .i64 0) 1 8 Tryz.underlying45 hi0 z0 z1 z2 rfl (by decide) (.slice A xs.length c) xs.length (xs.map (Value.int .i64)) hs h.own (some ⟨b,0,none⟩) 1 1 [.int .i64 u] hx rfl (int_cells hb) (by simp [Value.oneCell']) (by unfold maxLen;omega) (by omega) hbase ?_;intro v' w9 hown hgr _;have hp:=IRow.of_owns hown;obtain ⟨A9,c9,hv,_,_⟩:=hp.shape;rw [List.length_append] at hv;subst hv;exact hK A9 c9 w9 hp hgr
end
end
section
open Go.RowKit
theorem run_make_int (n:Nat) (hn:n<=1000000) (W:World):(Instr.makeSlice 45 (.int .i64 n) (.int .i64 n)).run Tryz.prog W=.ok (.slice (some ⟨W.heap.size,0,none⟩) n n) (W.alloc (.cells (madeCells #[.int .i64 0] n) 3)):=by
 obtain ⟨i0,hi,hz0,hz1,hz2⟩:=info_parts info_int;have h:=run_make (P:=Tryz.prog) W 45 3 i0 (.int .i64 0) Tryz.underlying45 hi hz0 .i64 .i64 n n (by omega) (by omega) (by rw [hz2];omega) (by omega);simp only [Int.toNat_natCast,hz1,Nat.mul_one] at h;exact h
def behind (md:Region.Mode) (ops:Array Oper) (i:Nat):List Nat:=(List.range ops.size).foldl (fun R j=>if(ops[j]?.map fun o=>o.after.any fun e=>Region.binds md e && (e.on == i || R.contains e.on)) == some true then R ++ [j] else R) []
def waitsAll (md:Region.Mode) (ops:Array Oper) (listed:Array Bool) (m i:Nat):Bool :=
 let R:=behind md ops i
 R.contains m && i != m && R.all (fun r=>(listed.getD r true == false) && ((ops[r]?.map fun o=>o.after.any fun e=>Region.binds md e && (e.on == i || R.contains e.on)) == some true))
section
variable {P:Program} {ops:Array Oper} {Q:Exit->Act->World->Prop} {md:Region.Mode} {S:World->Prop}
def wpHd (P:Program) (md:Region.Mode) (ops:Array Oper) (Q:Exit->Act->World->Prop) (S:World->Prop) (m:Nat):Nat->Array Bool->Act->World->Prop
 | 0,listed,a,w=>Region.ready md ops listed=[]/\Q .normal a w
 | fuel+1,listed,a,w=>(Region.ready md ops listed=[]->Q .normal a w) /\
   ∀ i ∈ Region.ready md ops listed,wpOp P ops Q i (fun a' w'=>((listed.setIfInBounds i true).getD m true=false->S w')/\wpHd P md ops Q S m fuel (listed.setIfInBounds i true) a' w') a w
theorem wpAny_of_hd {m:Nat}:∀ (fuel:Nat) (listed:Array Bool) (a:Act) (w:World),wpHd P md ops Q S m fuel listed a w->wpAny P md ops Q fuel listed a w
 | 0,_,_,_,h=>h
 | fuel+1,_,_,_,h=>⟨h.1,fun i hi=>wpOp_mono (fun a' w' h'=>wpAny_of_hd fuel _ a' w' h'.2) (h.2 i hi)⟩
theorem wpHd_first {m:Nat} {T:World->Prop} {Inv:Array Bool->Prop} {i:Nat} {oi:Oper} {v:Value} (hi:ops[i]?=some oi) (him:i≠m) (hsel:∀ (j:Nat) (o:Oper) cs b,ops[j]?=some o->o.op≠.select cs b) (hQ:∀ c a w,Q (.panic c) (a.put oi.dst v) w->Q (.panic c) a w)
  (hEnd:∀ listed w,Inv listed->T w->listed.getD m true=false->S w)
  (hNext:∀ listed j w,Inv listed->i ∈ Region.ready md ops listed->j ∈ Region.ready md ops listed->j≠i->((listed.setIfInBounds j true).getD m true=false->S w)->T w/\Inv (listed.setIfInBounds j true)) :
  ∀ (fuel:Nat) (listed:Array Bool) (a:Act) (w:World),
   (∀ j oj,ops[j]?=some oj->j≠i->listed.getD j true=false->(∀ e ∈ oj.after,Region.binds md e=true->e.on≠i)->oi.apart ops oj=true) ->
   i ∈ Region.ready md ops listed->YieldsIf P ops T oi v a->T w->Inv listed ->
   wpHd P md ops Q S m fuel (listed.setIfInBounds i true) (a.put oi.dst v) w->wpHd P md ops Q S m (fuel+1) listed a w:=by
 intro fuel
 induction fuel with
 | zero =>
  intro listed a w _ hr hy hT hInv H;refine⟨fun h=>(by rw [h] at hr;cases hr),fun j hj=>?_⟩
  by_cases hji:j=i
  ·subst hji;exact hy.wpOp hi hT ⟨fun he=>hEnd listed w hInv hT (by rwa [getD_set_ne true him] at he),H⟩
  ·have:=ready_mono hj hji;rw [H.1] at this
   cases this
 | succ fuel ih =>
  intro listed a w hfree hr hy hT hInv H;refine⟨fun h=>(by rw [h] at hr;cases hr),fun j hj=>?_⟩
  by_cases hji:j=i
  ·subst hji;exact hy.wpOp hi hT ⟨fun he=>hEnd listed w hInv hT (by rwa [getD_set_ne true him] at he),H⟩
  ·have h1:=H.2 j (ready_mono hj hji);obtain ⟨hjun,oj,hoj,hall⟩:=mem_ready.1 hj
   have hnot:∀ e ∈ oj.after,Region.binds md e=true->e.on≠i:=fun e he hb heq=>by
    have h1:=hall e he hb;have h0:=(mem_ready.1 hr).1;rw [heq] at h1;rcases Nat.lt_or_ge i listed.size with h' | h'
    ·simp [h'] at h0 h1;rw [h0] at h1;cases h1
    ·simp [Array.getElem?_eq_none h'] at h1
   have h2:=wpOp_putIf hoj (hfree j oj hoj hji hjun hnot) (fun cs b=>hsel i oi cs b hi) (fun cs b=>hsel j oj cs b hoj) hQ hy h1
   have hfree':∀ k ok,ops[k]?=some ok->k≠i->(listed.setIfInBounds j true).getD k true=false ->
     (∀ e ∈ ok.after,Region.binds md e=true->e.on≠i)->oi.apart ops ok=true:=fun k ok hk hki hun hno=>by
    refine hfree k ok hk hki ?_ hno
    by_cases hjk:j=k
    ·subst hjk;exact hjun
    ·rw [getD_set_ne true hjk] at hun;exact hun
   refine wpOp_mono (fun a' w' h3=>?_) h2;have hSj:(listed.setIfInBounds j true).getD m true=false->S w':=fun he=>h3.2.1 (by rw [← Array.setIfInBounds_comm _ _ hji,getD_set_ne true him];exact he);obtain ⟨hT',hInv'⟩:=hNext listed j w' hInv hr hj hji hSj;refine⟨hSj,ih (listed.setIfInBounds j true) a' w' hfree' (ready_mono hr (Ne.symm hji)) h3.1 hT' hInv' ?_⟩;rw [Array.setIfInBounds_comm _ _ hji];exact h3.2.2
theorem wpHd_take {i m:Nat} {oi:Oper} {v:Value} {fuel:Nat} {listed:Array Bool} {a:Act} {w:World} (hi:ops[i]?=some oi) (hs:Region.noSelect ops=true) (hf:Region.free md ops listed i=true) (hr:(Region.ready md ops listed).contains i=true) (hw:waitsAll md ops listed m i=true)
  (hQ:∀ c a w,Q (.panic c) (a.put oi.dst v) w->Q (.panic c) a w) (hy:YieldsIf P ops S oi v a) (hS:S w) (h:wpHd P md ops Q S m fuel (listed.setIfInBounds i true) (a.put oi.dst v) w):wpHd P md ops Q S m (fuel+1) listed a w:=by
 unfold waitsAll at hw;simp only [Bool.and_eq_true,List.all_eq_true,beq_iff_eq,bne_iff_ne,ne_eq] at hw;obtain ⟨⟨hm,him⟩,hR⟩:=hw;generalize behind md ops i=R at *;have hm':m ∈ R:=by simpa using hm
 refine wpHd_first (T:=S) (Inv:=fun l=>∀ r ∈ R,l.getD r true=false) hi him (Region.noSelect_spec hs) hQ (fun _ _ _ h _=>h) ?_ fuel listed a w (Region.free_spec hi hf) (by simpa using hr) hy hS (fun r hr=>(hR r hr).1) h;intro l j w' hInv hri hrj hji hSj
 have hun:∀ k,(k=i\/k ∈ R)->l.getD k true=false:=fun k hk=>by
  rcases hk with rfl | hk
  ·exact(mem_ready.1 hri).1
  ·exact hInv k hk
 have hjR:j ∉ R:=fun hjR=>by
  obtain ⟨hjun,oj,hoj,hall⟩:=mem_ready.1 hrj;have h2:=(hR j hjR).2;rw [hoj] at h2;have h3:(oj.after.any fun e=>Region.binds md e && (e.on == i || R.contains e.on))=true:=by simpa using h2
  obtain ⟨k,hk,hq⟩:=Array.any_eq_true.1 h3;rw [Bool.and_eq_true] at hq;have h4:=hall _ (Array.getElem_mem hk) hq.1;have h5:=hun (oj.after[k]).on (by simpa using hq.2);rcases Nat.lt_or_ge (oj.after[k]).on l.size with h' | h'
  ·simp [h'] at h4 h5;rw [h4] at h5;cases h5
  ·simp [Array.getElem?_eq_none h'] at h4
 have hInv':∀ r ∈ R,(l.setIfInBounds j true).getD r true=false:=fun r hr=>by
  have hne:j≠r:=fun e=>by subst e;exact hjR hr
  rw [getD_set_ne true hne];exact hInv r hr
 exact⟨hSj (hInv' m hm'),hInv'⟩
theorem wpHd_step {i m:Nat} {o:Oper} {fuel:Nat} {listed:Array Bool} {a:Act} {w:World} (hr:Region.ready md ops listed=[i]) (ho:ops[i]?=some o)
  (h:∀ K':Act->World->Prop,Shut (∀ a w,S w->(S w->wpHd P md ops Q S m fuel (listed.setIfInBounds i true) a w)->K' a w)->if Region.wanted o (yielded ops a.tmps)=true then Oper.wp P o a w K' Q else K' (a.put o.dst undef) w) :
  wpHd P md ops Q S m (fuel+1) listed a w:=by
 refine⟨fun h0=>(by rw [hr] at h0;cases h0),fun j hj=>?_⟩;rw [hr] at hj;obtain rfl:j=i:=by simpa using hj
 exact wpOp_step ho (fun K' hK=>h K' (fun a w hS hW=>hK a w ⟨fun _=>hS,hW hS⟩))
theorem wpHd_last {i m:Nat} {o:Oper} {fuel:Nat} {listed:Array Bool} {a:Act} {w:World} (hr:Region.ready md ops listed=[i]) (ho:ops[i]?=some o) (hm:(listed.setIfInBounds i true).getD m true=true)
  (h:∀ K':Act->World->Prop,Shut (∀ a w,wpHd P md ops Q S m fuel (listed.setIfInBounds i true) a w->K' a w)->if Region.wanted o (yielded ops a.tmps)=true then Oper.wp P o a w K' Q else K' (a.put o.dst undef) w) :
  wpHd P md ops Q S m (fuel+1) listed a w:=by
 refine⟨fun h0=>(by rw [hr] at h0;cases h0),fun j hj=>?_⟩;rw [hr] at hj;obtain rfl:j=i:=by simpa using hj
 exact wpOp_step ho (fun K' hK=>h K' (fun a w hW=>hK a w ⟨fun he=>(by rw [hm] at he;cases he),hW⟩))
theorem wpHd_done {m:Nat} {listed:Array Bool} {a:Act} {w:World} (hr:Region.ready md ops listed=[]) (h:Q .normal a w):∀ fuel,wpHd P md ops Q S m fuel listed a w
 | 0=>⟨hr,h⟩
 | _+1=>⟨fun _=>h,by rw [hr];simp⟩
theorem wp_region_hd {id:Nat} {a:Act} {w:World} (hm:P.follows .mixedOrders=true) (m:Nat) (hS:S w.drew) (h:S w.drew->wpHd P .any ops Q S m ops.size (Array.replicate ops.size false) a w.drew):(Code.region id ops true).wp P Q a w :=
 wp_region_any hm (wpAny_of_hd _ _ _ _ (h hS))
def hl (_:List Nat) (X:Prop):Prop:=X
theorem hl1 (is:List Nat) {X:Prop} (h:hl is X):X:=h
theorem hl0 {X:Prop} (h:X):hl [] X:=h
theorem hwt {d:Option Tmp} {op:Op} {t:TypeId} {pos:String} {af:Array Edge} {g:Option (Nat × Bool)} {i m:Nat} {is:List Nat} {v:Value} {fuel:Nat} {listed:Array Bool} {a:Act} {w:World} (hy:∀ w,S w->(execOp a.eval (Oper.mk d op t pos af g)).run P w=.ok (.value v) w) (h:hl is (wpHd P md ops Q S m fuel (listed.setIfInBounds i true) (a.put (Oper.mk d op t pos af g).dst v) w))
  (hi:ops[i]?=some (Oper.mk d op t pos af g):=by rfl) (hs:Region.noSelect ops=true:=by kernel_rfl) (hf:Region.free md ops listed i=true:=by kernel_rfl) (hr:(Region.ready md ops listed).contains i=true:=by kernel_rfl) (hm:waitsAll md ops listed m i=true:=by kernel_rfl)
  (hQ:∀ c a w,Q (.panic c) (a.put (Oper.mk d op t pos af g).dst v) w->Q (.panic c) a w:=by exact fun _ _ _ h=>h) (hw:Region.wanted (Oper.mk d op t pos af g) (yielded ops a.tmps)=true:=by rfl) (hS:S w:=by assumption):hl (i :: is) (wpHd P md ops Q S m (fuel+1) listed a w):=wpHd_take hi hs hf hr hm hQ (.inl ⟨hw,hy⟩) hS h
end
end
section
open Go.RowKit
variable {P:Program}
def doorM (P:Program) (fn:Func) (R:Ending->World->Prop):Exit->Act->World->Prop
 | .normal,a,w | .ret,a,w=>LeavesInM Fence.wide 9 P fn a.tmps R a.defers .returning w
 | _,_,_=>False
theorem calls_marks {f:FuncId} {fn:Func} {c:Code} {args:Array Value} {w:World} {R:Ending->World->Prop} (hf:P.funcs[f]?=some fn) (hb:fn.body=some c)
  (h:c.wp P (doorM P fn R) { tmps:=args ++ Array.replicate (fn.ntmps - args.size) undef,defers:=[] } w):Calls P f args w R :=
 callsIn_wide.1 (callsIn_of_wp_marks hf hb trivial (wpIn_wide.2 (wp_mono h (fun e a w he=>by
  cases e with
  | normal=>exact he
  | ret=>exact he
  | exit id=>exact he.elim
  | goto l=>exact he.elim
  | panic ch=>exact he.elim
  | outgrown=>exact he.elim))))
def Marks (B:Nat) (w:World) (ds:List Deferred):Prop:=∃ Ds:List Nat,ds=Ds.map (fun D=>{ target:=.collected D,args:=#[] })/\Ds.Nodup/\∀ D ∈ Ds,B<=D/\w.heap[D]?=some (.deferred (some []))
theorem Marks.nil (B:Nat) (w:World):Marks B w []:=⟨[],rfl,List.nodup_nil,fun _ h=>by cases h⟩
theorem Marks.cons {B D:Nat} {w w':World} {ds:List Deferred} (h:Marks B w ds) (hk:KeepsOthers w w') (hB:B<=D) (hD:w'.heap[D]?=some (.deferred (some []))) (hn:w.heap.size<=D):Marks B w' ({ target:=.collected D,args:=#[] } :: ds):=by
 obtain ⟨Ds,rfl,hnd,hall⟩:=h;refine⟨D :: Ds,rfl,List.nodup_cons.2 ⟨fun hm=>?_,hnd⟩,fun E hE=>?_⟩
 ·have:=(Array.getElem?_eq_some_iff.1 (hall D hm).2).1
  omega
 ·rcases List.mem_cons.1 hE with rfl | hE
  ·exact⟨hB,hD⟩
  ·exact⟨(hall E hE).1,hk.same _ _ (hall E hE).2 rfl⟩
theorem Marks.keep {B:Nat} {w w':World} {ds:List Deferred} (h:Marks B w ds) (hk:KeepsOthers w w'):Marks B w' ds:=by
 obtain ⟨Ds,rfl,hnd,hall⟩:=h;exact⟨Ds,rfl,hnd,fun D hD=>⟨(hall D hD).1,hk.same _ _ (hall D hD).2 rfl⟩⟩
theorem Marks.below {B:Nat} {w w':World} {ds:List Deferred} (h:Marks B w ds) (hb:Below w.heap.size w w'):Marks B w' ds:=by
 obtain ⟨Ds,rfl,hnd,hall⟩:=h;exact⟨Ds,rfl,hnd,fun D hD=>⟨(hall D hD).1,(hb.block D (Array.getElem?_eq_some_iff.1 (hall D hD).2).1).trans (hall D hD).2⟩⟩
theorem leaves_marks {fn:Func} {tmps:Array Value} {R:Ending->World->Prop} {B:Nat}:∀ (Ds:List Nat) (w:World),Ds.Nodup->(∀ D ∈ Ds,B<=D/\w.heap[D]?=some (.deferred (some []))) ->
  (∀ w',(∀ b,(∀ D ∈ Ds,b≠D)->w'.heap[b]?=w.heap[b]?)->Below B w w'->∃ v,(results fn tmps).run P w'=.ok v w'/\R (.returned v) w') ->
  LeavesInM Fence.wide 9 P fn tmps R (Ds.map fun D=>{ target:=.collected D,args:=#[] }) .returning w
 | [],w,_,_,h=>by
  exact h w (fun _ _=>rfl) (Below.refl _ _)
 | D :: Ds,w,hnd,hall,h=>by
  have hD:=hall D (by simp);have hn:=List.nodup_cons.1 hnd;refine⟨by simp,.inl ⟨D,_,rfl,run_takeDeferred hD.2,?_⟩⟩;refine leaves_marks Ds _ hn.2 (fun E hE=>⟨(hall E (by simp [hE])).1,(World.putObj_heap_other (fun e=>by cases e;exact hn.1 hE)).trans (hall E (by simp [hE])).2⟩) (fun w' hw' hb=>?_);have hlt:=(Array.getElem?_eq_some_iff.1 hD.2).1;refine h w' (fun b hbn=>?_) ?_
  ·rw [hw' b (fun E hE=>hbn E (by simp [hE]))];exact World.putObj_heap_other (hbn D (by simp))
  ·refine Below.trans ?_ hb;exact(Below.refl B w).grown (grownBy_putObj' w D _) (by omega) (fun k e=>by cases e;exact hD.1)
theorem Marks.leaves {fn:Func} {tmps:Array Value} {R:Ending->World->Prop} {B:Nat} {w:World} {ds:List Deferred} (hm:Marks B w ds)
  (h:∀ w',(∀ (b:Nat) (o:Obj),w.heap[b]?=some o->o.isCells=true->w'.heap[b]?=some o)->Below B w w'->∃ v,(results fn tmps).run P w'=.ok v w'/\R (.returned v) w'):LeavesInM Fence.wide 9 P fn tmps R ds .returning w:=by
 obtain ⟨Ds,rfl,hnd,hall⟩:=hm;refine leaves_marks Ds w hnd hall (fun w' hw hb=>h w' (fun b o hbo hc=>?_) hb);rw [hw b (fun D hD e=>?_)]
 ·exact hbo
 ·subst e;rw [(hall b hD).2] at hbo
  cases hbo
  cases hc
theorem wp_range {α:Type} {g:Operand} {ps:Array Tmp} {assign body:Code} {Q:Exit->Act->World->Prop} {a:Act} {w:World} {gf:Nat} {lb:Array Value} (hg:a.eval g=.func (.func gf) #[] lb) (eg:∀ args w,(callFunc gf args).run P w=.ok (.enter gf args) w)
  {encs:α->Array Value} {Kp:World->World->Prop} {S Sp:List α->Prop} {N:Nat} (hseq:SeqStopsK Fence.wide 9 P gf lb encs Kp S Sp N w)
  (hKt:∀ {A B C:World},Kp A B->Kp B C->Kp A C) (hKb:∀ (W:World) (l:Nat) (o o':Obj),w.heap.size<=l->W.heap[l]?=some o->o.isCells=false->o.isWalk=false->Kp W (W.putObj l o')) (hps:∀ x,(encs x).size=ps.size)
  (I:List α->World->Prop) (Ix:Code->List α->World->Prop) (hI:OwnFrom w.heap.size I) (hIx:∀ c,OwnFrom w.heap.size (Ix c)) (h0:I [] w) (a₁:α->Act)
  (hassign:∀ (l:Nat) (x:α) (W:World) (K:Act->World->Prop),K (a₁ x) W->assign.wpIn (Fence.wide.inRound l) 8 P (Exit.then K (fun _ _ _=>False)) { tmps:=(ps.zip (encs x)).foldl (fun t (p,v)=>t.setIfInBounds p v) a.tmps,defers:=[] } W)
  (hbody:∀ (l:Nat) (pre:List α) (x:α) (W:World),I pre W->pre.length < N->body.wpIn (Fence.wide.inRound l) 8 P (ownPostG w.heap.size Kp I Ix (pre ++ [x]) W) (a₁ x) W)
  (hdone:∀ (D:Nat) (xs:List α) (W:World),w.heap.size<=D->S xs->I xs W->W.heap[D]?=some (.deferred (some []))->Q .normal { a with defers:={ target:=.collected D,args:=#[] } :: a.defers } W)
  (hstop:∀ (D:Nat) (c:Code) (pre:List α) (W:World),w.heap.size<=D->Sp pre->Ix c pre W->W.heap[D]?=some (.deferred (some []))->c.wp P Q { a with defers:={ target:=.collected D,args:=#[] } :: a.defers } W) :
  (Code.rangeFunc g ps assign body).wp P Q a w :=
 wpIn_wide.1 (wpIn_rangeFunc_ownG (n:=10) rfl (by decide) hg trivial eg hseq (fun h k=>hKt h k) hKb (Below.refl _ _) hps I Ix hI hIx h0 a₁ hassign hbody hdone (fun D c pre W h1 h2 h3 h4=>wpIn_wide.2 (hstop D c pre W h1 h2 h3 h4)))
theorem rowsIn_round {l n:Nat} {row:String} {args:Array Value} {w:World} {R:Value->World->Prop} (h:Rows P row args w R):RowsIn (Fence.wide.inRound l) n P row args w R:=fun c cs _ =>
 let ⟨v,w',r,s⟩:=h c cs
 ⟨v,w',r,stepsIn_wide.2 s⟩
theorem callsIn_round {l n:Nat} {f:FuncId} {args:Array Value} {w:World} {R:Ending->World->Prop} (h:Calls P f args w R):CallsIn (Fence.wide.inRound l) n P f args w R:=CallsIn.inRound l (callsIn_wide.2 h)
def noDefer (ops:Array Oper):Bool:=ops.all fun o=>match o.op with | .defer _=>false | _=>true
theorem noDefer_at {ops:Array Oper} (h:noDefer ops=true) {i:Nat} {o:Oper} (ho:ops[i]?=some o):∀ c,o.op≠.defer c:=fun c e=>by
 unfold noDefer at h;rw [Array.all_eq_true] at h;obtain ⟨hi,rfl⟩:=Array.getElem?_eq_some_iff.1 ho;have:=h i hi;rw [e] at this
 cases this
theorem opsIn_of_ops {ops:Array Oper} {Q:Exit->Act->World->Prop} {l n:Nat} (hd:noDefer ops=true) (hL:¬ LetsOut Q):∀ (is:List Nat) (a:Act) (w:World),wpOps P ops Q is a w->wpOpsIn (Fence.wide.inRound l) n P ops Q is a w
 | [],_,_,h=>h
 | i :: rest,a,w,h=>by
  unfold wpOps at h;unfold wpOpsIn
  cases hi:ops[i]? with
  | none =>
   rw [hi] at h;exact opsIn_of_ops hd hL rest a w h
  | some o =>
   rw [hi] at h;simp only at h ⊢
   split
   ·rename_i hw
    rw [if_pos hw] at h;rcases h with h | ⟨_,h⟩
    ·refine⟨fun _ _=>trivial,?_⟩;rw [show(Fence.wide.inRound l).round=some l from rfl,Oper.semAt_some l _ o (noDefer_at hd hi)];unfold Oper.wp at h;generalize (execOp a.eval o).run P w=r at *
     cases r with
     | ok x w' =>
      cases x <;> simp only [Oper.upon,Oper.uponIn] at h ⊢
      case value v=>exact opsIn_of_ops hd hL rest _ _ h
      case skip=>exact opsIn_of_ops hd hL rest _ _ h
      case defer d=>exact opsIn_of_ops hd hL rest _ _ h
      case enter f args=>exact⟨fun hx=>(by cases hx),callsIn_round (h.mono fun e w2 he=>by cases e <;> first | exact opsIn_of_ops hd hL rest _ _ he | exact he)⟩
      case row row args=>exact⟨fun hx=>(by cases hx),rowsIn_round (h.mono fun v w2 he=>opsIn_of_ops hd hL rest _ _ he)⟩
     | halt x w'=>cases x <;> simp only [Oper.upon,Oper.uponIn] at h ⊢ <;> exact h
    ·exact absurd h hL
   ·rename_i hw
    rw [if_neg hw] at h;exact⟨fun _ _=>trivial,opsIn_of_ops hd hL rest _ _ h⟩
theorem wpIn_region_hd {ops:Array Oper} {Q:Exit->Act->World->Prop} {S:World->Prop} {l n id:Nat} {a:Act} {w:World} (hd:noDefer ops=true) (hL:¬ LetsOut Q) (hm:P.follows .mixedOrders=true) (m:Nat) (hS:S w.drew)
  (h:S w.drew->wpHd P .any ops Q S m ops.size (Array.replicate ops.size false) a w.drew):(Code.region id ops true).wpIn (Fence.wide.inRound l) n P Q a w :=
 wpIn_region_draw fun t=>opsIn_of_ops hd hL _ _ _ (by
  simp only [Region.schedule,hm,Bool.true_or,if_true];exact wpAny_sound ops.size t _ a _ (wpAny_of_hd _ _ _ _ (h hS)))
theorem letsG {α:Type} {B:Nat} {Kp:World->World->Prop} {I:List α->World->Prop} {Ix:Code->List α->World->Prop} {xs:List α} {W:World}:¬ LetsOut (ownPostG B Kp I Ix xs W):=fun⟨_,_,h⟩=>h
theorem lets_block {id:Nat} {Q:Exit->Act->World->Prop} (h:¬ LetsOut Q):¬ LetsOut (Exit.inBlock id Q):=fun⟨a,w,h'⟩=>h ⟨a,w,h'⟩
theorem lets_then {K:Act->World->Prop} {Q:Exit->Act->World->Prop} (h:¬ LetsOut Q):¬ LetsOut (Exit.then K Q):=fun⟨a,w,h'⟩=>h ⟨a,w,h'⟩
end
section
open Go.RowKit
section
variable {n:Nat} {P:Program} {ops:Array Oper} {Q:Exit->Act->World->Prop} {md:Region.Mode} {S:World->Prop}
theorem ifR_op {i:Nat} {o:Oper} {v:Value} {a:Act} (hi:ops[i]?=some o) (hy:YieldsIf P ops S o v a) {K:Act->World->Prop} {w:World} (hS:S w) (h:K (a.put o.dst v) w):wpOpIn Fence.wide n P ops Q i K a w:=by
 unfold Go.wpOpIn;simp only [hi];rcases hy with⟨hw,hv⟩ | ⟨hw,rfl⟩
 ·simp only [hw,if_true,Oper.wpIn];refine⟨fun _ _=>trivial,?_⟩;rw [show Fence.wide.round=none from rfl,Oper.semAt_none,hv w hS];exact h
 ·simp only [hw,Bool.false_eq_true,if_false];exact⟨fun _ _=>trivial,h⟩
theorem ifR_put {j:Nat} {oi oj:Oper} {v:Value} (hj:ops[j]?=some oj) (hap:oi.apart ops oj=true) (hsi:∀ cs b,oi.op≠.select cs b) (hsj:∀ cs b,oj.op≠.select cs b)
  (hQ:∀ c a w,Q (.panic c) (a.put oi.dst v) w->Q (.panic c) a w) {K:Act->World->Prop} {a:Act} {w:World} (hy:YieldsIf P ops S oi v a) (h:wpOpIn Fence.wide n P ops Q j K (a.put oi.dst v) w) :
  wpOpIn Fence.wide n P ops Q j (fun a' w'=>YieldsIf P ops S oi v a'/\K (a'.put oi.dst v) w') a w:=by
 obtain ⟨h1,h2,h3⟩:=Oper.apart_spec hap;have keep:∀ (a:Act),YieldsIf P ops S oi v a->∀ u,YieldsIf P ops S oi v (a.put oj.dst u):=fun a hy u=>hy.of_same (execOp_put oi hsi a oj.dst u h3) (wanted_put oi a oj.dst u h3);have keepD:∀ d,YieldsIf P ops S oi v { a with defers:=d :: a.defers }:=fun d=>hy.of_same rfl rfl;have comm:∀ (b:Act) (u:Value),(b.put oj.dst u).put oi.dst v=(b.put oi.dst v).put oj.dst u:=fun b u=>(Act.put_comm b v u h2).symm;unfold wpOpIn at *;simp only [hj] at *;rw [wanted_put oj a oi.dst v h1] at h
 split
 ·rename_i hw
  simp only [hw,if_true] at h;refine⟨fun _ _=>trivial,?_⟩;have h:=h.2;rw [show Fence.wide.round=none from rfl,Oper.semAt_none] at h ⊢;rw [execOp_put oj hsj a oi.dst v h1] at h;generalize (execOp a.eval oj).run P w=r at *
  cases r with
  | ok x w' =>
   cases x <;> simp only [Oper.uponIn] at h ⊢
   case value u=>exact⟨keep a hy u,by rw [comm];exact h⟩
   case skip=>exact⟨keep a hy _,by rw [comm];exact h⟩
   case defer d=>exact⟨keep _ (keepD d) _,by rw [comm,← Act.put_defers];exact h⟩
   case enter f args =>
    refine⟨h.1,CallsIn.mono h.2 fun e w2 he=>?_⟩
    cases e with
    | returned u=>exact⟨keep a hy u,by rw [comm];exact he⟩
    | panicked c=>exact hQ _ _ _ he
    | outgrown=>exact he
   case row row args=>exact⟨h.1,RowsIn.mono h.2 fun u w2 he=>⟨keep a hy u,by rw [comm];exact he⟩⟩
   case round l f tmps assign body =>
    refine⟨h.1,RoundIn.mono h.2 fun e w2 he=>?_⟩
    cases e with
    | returned u=>exact⟨keep a hy u,by rw [comm];exact he⟩
    | panicked c=>exact hQ _ _ _ he
    | outgrown=>exact he
  | halt x w' =>
   cases x <;> simp only [Oper.uponIn] at h ⊢
   case panic u=>exact hQ _ _ _ h
 ·rename_i hw
  simp only [hw] at h;exact⟨fun _ _=>trivial,keep a hy _,by rw [comm];exact h.2⟩
def wpRnd (n:Nat) (P:Program) (md:Region.Mode) (ops:Array Oper) (Q:Exit->Act->World->Prop) (S:World->Prop) (m:Nat):Nat->Array Bool->Act->World->Prop
 | 0,listed,a,w=>Region.ready md ops listed=[]/\Q .normal a w
 | fuel+1,listed,a,w=>(Region.ready md ops listed=[]->Q .normal a w) /\
   ∀ i ∈ Region.ready md ops listed,wpOpIn Fence.wide n P ops Q i (fun a' w'=>((listed.setIfInBounds i true).getD m true=false->S w')/\wpRnd n P md ops Q S m fuel (listed.setIfInBounds i true) a' w') a w
theorem wpAny_of_rnd {m:Nat}:∀ (fuel:Nat) (listed:Array Bool) (a:Act) (w:World),wpRnd n P md ops Q S m fuel listed a w->wpAnyIn Fence.wide n P md ops Q fuel listed a w
 | 0,_,_,_,h=>h
 | fuel+1,_,_,_,h=>⟨h.1,fun i hi=>wpOpIn_mono (fun a' w' h'=>wpAny_of_rnd fuel _ a' w' h'.2) (h.2 i hi)⟩
theorem wpRnd_first {m:Nat} {T:World->Prop} {Inv:Array Bool->Prop} {i:Nat} {oi:Oper} {v:Value} (hi:ops[i]?=some oi) (him:i≠m) (hsel:∀ (j:Nat) (o:Oper) cs b,ops[j]?=some o->o.op≠.select cs b) (hQ:∀ c a w,Q (.panic c) (a.put oi.dst v) w->Q (.panic c) a w)
  (hEnd:∀ listed w,Inv listed->T w->listed.getD m true=false->S w)
  (hNext:∀ listed j w,Inv listed->i ∈ Region.ready md ops listed->j ∈ Region.ready md ops listed->j≠i->((listed.setIfInBounds j true).getD m true=false->S w)->T w/\Inv (listed.setIfInBounds j true)) :
  ∀ (fuel:Nat) (listed:Array Bool) (a:Act) (w:World),
   (∀ j oj,ops[j]?=some oj->j≠i->listed.getD j true=false->(∀ e ∈ oj.after,Region.binds md e=true->e.on≠i)->oi.apart ops oj=true) ->
   i ∈ Region.ready md ops listed->YieldsIf P ops T oi v a->T w->Inv listed ->
   wpRnd n P md ops Q S m fuel (listed.setIfInBounds i true) (a.put oi.dst v) w->wpRnd n P md ops Q S m (fuel+1) listed a w:=by
 intro fuel
 induction fuel with
 | zero =>
  intro listed a w _ hr hy hT hInv H;refine⟨fun h=>(by rw [h] at hr;cases hr),fun j hj=>?_⟩
  by_cases hji:j=i
  ·subst hji;exact ifR_op hi hy hT ⟨fun he=>hEnd listed w hInv hT (by rwa [getD_set_ne true him] at he),H⟩
  ·have:=ready_mono hj hji;rw [H.1] at this
   cases this
 | succ fuel ih =>
  intro listed a w hfree hr hy hT hInv H;refine⟨fun h=>(by rw [h] at hr;cases hr),fun j hj=>?_⟩
  by_cases hji:j=i
  ·subst hji;exact ifR_op hi hy hT ⟨fun he=>hEnd listed w hInv hT (by rwa [getD_set_ne true him] at he),H⟩
  ·have h1:=H.2 j (ready_mono hj hji);obtain ⟨hjun,oj,hoj,hall⟩:=mem_ready.1 hj
   have hnot:∀ e ∈ oj.after,Region.binds md e=true->e.on≠i:=fun e he hb heq=>by
    have h1:=hall e he hb;have h0:=(mem_ready.1 hr).1;rw [heq] at h1;rcases Nat.lt_or_ge i listed.size with h' | h'
    ·simp [h'] at h0 h1;rw [h0] at h1;cases h1
    ·simp [Array.getElem?_eq_none h'] at h1
   have h2:=ifR_put hoj (hfree j oj hoj hji hjun hnot) (fun cs b=>hsel i oi cs b hi) (fun cs b=>hsel j oj cs b hoj) hQ hy h1
   have hfree':∀ k ok,ops[k]?=some ok->k≠i->(listed.setIfInBounds j true).getD k true=false ->
     (∀ e ∈ ok.after,Region.binds md e=true->e.on≠i)->oi.apart ops ok=true:=fun k ok hk hki hun hno=>by
    refine hfree k ok hk hki ?_ hno
    by_cases hjk:j=k
    ·subst hjk;exact hjun
    ·rw [getD_set_ne true hjk] at hun;exact hun
   refine wpOpIn_mono (fun a' w' h3=>?_) h2;have hSj:(listed.setIfInBounds j true).getD m true=false->S w':=fun he=>h3.2.1 (by rw [← Array.setIfInBounds_comm _ _ hji,getD_set_ne true him];exact he);obtain ⟨hT',hInv'⟩:=hNext listed j w' hInv hr hj hji hSj;refine⟨hSj,ih (listed.setIfInBounds j true) a' w' hfree' (ready_mono hr (Ne.symm hji)) h3.1 hT' hInv' ?_⟩;rw [Array.setIfInBounds_comm _ _ hji];exact h3.2.2
theorem wpRnd_take {i m:Nat} {oi:Oper} {v:Value} {fuel:Nat} {listed:Array Bool} {a:Act} {w:World} (hi:ops[i]?=some oi) (hs:Region.noSelect ops=true) (hf:Region.free md ops listed i=true) (hr:(Region.ready md ops listed).contains i=true) (hw:waitsAll md ops listed m i=true)
  (hQ:∀ c a w,Q (.panic c) (a.put oi.dst v) w->Q (.panic c) a w) (hy:YieldsIf P ops S oi v a) (hS:S w) (h:wpRnd n P md ops Q S m fuel (listed.setIfInBounds i true) (a.put oi.dst v) w):wpRnd n P md ops Q S m (fuel+1) listed a w:=by
 unfold waitsAll at hw;simp only [Bool.and_eq_true,List.all_eq_true,beq_iff_eq,bne_iff_ne,ne_eq] at hw;obtain ⟨⟨hm,him⟩,hR⟩:=hw;generalize behind md ops i=R at *;have hm':m ∈ R:=by simpa using hm
 refine wpRnd_first (T:=S) (Inv:=fun l=>∀ r ∈ R,l.getD r true=false) hi him (Region.noSelect_spec hs) hQ (fun _ _ _ h _=>h) ?_ fuel listed a w (Region.free_spec hi hf) (by simpa using hr) hy hS (fun r hr=>(hR r hr).1) h;intro l j w' hInv hri hrj hji hSj
 have hun:∀ k,(k=i\/k ∈ R)->l.getD k true=false:=fun k hk=>by
  rcases hk with rfl | hk
  ·exact(mem_ready.1 hri).1
  ·exact hInv k hk
 have hjR:j ∉ R:=fun hjR=>by
  obtain ⟨hjun,oj,hoj,hall⟩:=mem_ready.1 hrj;have h2:=(hR j hjR).2;rw [hoj] at h2;have h3:(oj.after.any fun e=>Region.binds md e && (e.on == i || R.contains e.on))=true:=by simpa using h2
  obtain ⟨k,hk,hq⟩:=Array.any_eq_true.1 h3;rw [Bool.and_eq_true] at hq;have h4:=hall _ (Array.getElem_mem hk) hq.1;have h5:=hun (oj.after[k]).on (by simpa using hq.2);rcases Nat.lt_or_ge (oj.after[k]).on l.size with h' | h'
  ·simp [h'] at h4 h5;rw [h4] at h5;cases h5
  ·simp [Array.getElem?_eq_none h'] at h4
 have hInv':∀ r ∈ R,(l.setIfInBounds j true).getD r true=false:=fun r hr=>by
  have hne:j≠r:=fun e=>by subst e;exact hjR hr
  rw [getD_set_ne true hne];exact hInv r hr
 exact⟨hSj (hInv' m hm'),hInv'⟩
theorem wpRnd_late {i m:Nat} {oi:Oper} {v:Value} {fuel:Nat} {listed:Array Bool} {a:Act} {w:World} (hi:ops[i]?=some oi) (hs:Region.noSelect ops=true) (hf:Region.free md ops listed i=true) (hr:(Region.ready md ops listed).contains i=true) (hw:(listed.getD m true && i != m)=true)
  (hQ:∀ c a w,Q (.panic c) (a.put oi.dst v) w->Q (.panic c) a w) (hy:YieldsIf P ops (fun _=>True) oi v a) (h:wpRnd n P md ops Q S m fuel (listed.setIfInBounds i true) (a.put oi.dst v) w):wpRnd n P md ops Q S m (fuel+1) listed a w:=by
 simp only [Bool.and_eq_true,bne_iff_ne,ne_eq] at hw;refine wpRnd_first (T:=fun _=>True) (Inv:=fun l=>l.getD m true=true) hi hw.2 (Region.noSelect_spec hs) hQ (fun l _ h1 _ h2=>by rw [h1] at h2;cases h2) ?_ fuel listed a w (Region.free_spec hi hf) (by simpa using hr) hy trivial hw.1 h;intro l j w' hInv _ _ _ _;refine⟨trivial,?_⟩
 by_cases hjm:j=m
 ·subst hjm;rcases Nat.lt_or_ge j l.size with h' | h'
  ·simp [h']
  ·simp
 ·rw [getD_set_ne true hjm];exact hInv
theorem wpRnd_step {i m:Nat} {o:Oper} {fuel:Nat} {listed:Array Bool} {a:Act} {w:World} (hr:Region.ready md ops listed=[i]) (ho:ops[i]?=some o) (hm:(listed.setIfInBounds i true).getD m true=true)
  (h:∀ K':Act->World->Prop,Shut (∀ a w,wpRnd n P md ops Q S m fuel (listed.setIfInBounds i true) a w->K' a w)->if Region.wanted o (yielded ops a.tmps)=true then Oper.wpIn Fence.wide n P o a w K' Q else(∀ f,o.about P w a.eval=some f->Fence.wide.fn f)/\K' (a.put o.dst undef) w) :
  wpRnd n P md ops Q S m (fuel+1) listed a w:=by
 refine⟨fun h0=>(by rw [hr] at h0;cases h0),fun j hj=>?_⟩;rw [hr] at hj;obtain rfl:j=i:=by simpa using hj
 exact wpOpIn_step ho (fun K' hK=>h K' (fun a w hW=>hK a w ⟨fun he=>(by rw [hm] at he;cases he),hW⟩))
theorem wpRnd_done {m:Nat} {listed:Array Bool} {a:Act} {w:World} (hr:Region.ready md ops listed=[]) (h:Q .normal a w):∀ fuel,wpRnd n P md ops Q S m fuel listed a w
 | 0=>⟨hr,h⟩
 | _+1=>⟨fun _=>h,by rw [hr];simp⟩
theorem wp_region_rnd {id:Nat} {a:Act} {w:World} (hm:P.follows .mixedOrders=true) (m:Nat) (hS:S w.drew) (h:S w.drew->wpRnd n P .any ops Q S m ops.size (Array.replicate ops.size false) a w.drew):(Code.region id ops true).wp P Q a w :=
 (wpIn_wide (n:=n)).1 (wpIn_region_any hm (wpAny_of_rnd _ _ _ _ (h hS)))
theorem hrt {d:Option Tmp} {op:Op} {t:TypeId} {pos:String} {af:Array Edge} {g:Option (Nat × Bool)} {i m:Nat} {is:List Nat} {v:Value} {fuel:Nat} {listed:Array Bool} {a:Act} {w:World} (hy:∀ w,S w->(execOp a.eval (Oper.mk d op t pos af g)).run P w=.ok (.value v) w) (h:hl is (wpRnd n P md ops Q S m fuel (listed.setIfInBounds i true) (a.put (Oper.mk d op t pos af g).dst v) w))
  (hi:ops[i]?=some (Oper.mk d op t pos af g):=by rfl) (hs:Region.noSelect ops=true:=by kernel_rfl) (hf:Region.free md ops listed i=true:=by kernel_rfl) (hr:(Region.ready md ops listed).contains i=true:=by kernel_rfl) (hm:waitsAll md ops listed m i=true:=by kernel_rfl)
  (hQ:∀ c a w,Q (.panic c) (a.put (Oper.mk d op t pos af g).dst v) w->Q (.panic c) a w:=by exact fun _ _ _ h=>h) (hw:Region.wanted (Oper.mk d op t pos af g) (yielded ops a.tmps)=true:=by rfl) (hS:S w:=by assumption):hl (i :: is) (wpRnd n P md ops Q S m (fuel+1) listed a w):=wpRnd_take hi hs hf hr hm hQ (.inl ⟨hw,hy⟩) hS h
theorem hrl {d:Option Tmp} {op:Op} {t:TypeId} {pos:String} {af:Array Edge} {g:Option (Nat × Bool)} {i m:Nat} {is:List Nat} {v:Value} {fuel:Nat} {listed:Array Bool} {a:Act} {w:World} (hy:∀ w,True->(execOp a.eval (Oper.mk d op t pos af g)).run P w=.ok (.value v) w) (h:hl is (wpRnd n P md ops Q S m fuel (listed.setIfInBounds i true) (a.put (Oper.mk d op t pos af g).dst v) w))
  (hi:ops[i]?=some (Oper.mk d op t pos af g):=by rfl) (hs:Region.noSelect ops=true:=by kernel_rfl) (hf:Region.free md ops listed i=true:=by kernel_rfl) (hr:(Region.ready md ops listed).contains i=true:=by kernel_rfl) (hm:(listed.getD m true && i != m)=true:=by kernel_rfl)
  (hQ:∀ c a w,Q (.panic c) (a.put (Oper.mk d op t pos af g).dst v) w->Q (.panic c) a w:=by exact fun _ _ _ h=>h) (hw:Region.wanted (Oper.mk d op t pos af g) (yielded ops a.tmps)=true:=by rfl):hl (i :: is) (wpRnd n P md ops Q S m (fuel+1) listed a w):=wpRnd_late hi hs hf hr hm hQ (.inl ⟨hw,hy⟩) h
end
end
end Go.Proofs.YtpmdcckapddchaaGreatDoor
