import Derived.Test.YtmcbolkpbklfeaaGreatDoorShort
import Derived.Test.YtmcbolkpbklfeaaGreatDoorMf
import Derived.Test.YtmcbolkpbklfeaaGreatDoorMzi
import Derived.Test.YtmcbolkpbklfeaaGreatDoorMd
import Derived.Test.YtmcbolkpbklfeaaGreatDoorMg
import Derived.LoopIn
import Derived.Test.YtmcbolkpbklfeaaGreatDoorMzg
import Derived.BigQuiet
/- merged by wip/merge.py from: BnAll BnExp DrAns -/
set_option maxRecDepth 100000
set_option maxHeartbeats 51200000
namespace Go.Proofs.YtmcbolkpbklfeaaGreatDoor
namespace Bn
open Go Go.RowKit Dt
abbrev Three:={ l:List Value // l.length=3/\∀ u ∈ l,u.oneCell'=true }
def valT (x:Three):List Value:=x.1
theorem valT_len (x:Three):(valT x).length=3:=x.2.1
theorem valT_one (x:Three):∀ u ∈ valT x,u.oneCell'=true:=x.2.2
theorem tyS:PTy 63 81 3 48:=⟨Tryz.underlying63,⟨.agg #[.int .i8 0,.string ⟨#[]⟩,.slice none 0 0],by kernel_rfl,rfl⟩,by decide,by decide⟩
theorem RdSeq.le {s:ByteArray} {p:Nat} {xs:List Sexp} (h:RdSeq s p xs):p<=s.size:=by cases h <;> assumption
theorem skipP_end {s:ByteArray} {p:Nat} (h:skipL false (from_ s p)=[]):skipP s p=s.size:=by unfold skipP at_;rw [h];rfl
theorem rd_next {s:ByteArray} {p:Nat} {x:Sexp} {r:List UInt8} (hp:p<=s.size) (h:Rd (from_ s p) x r):p < at_ s r/\at_ s r<=s.size:=by
 have:=h.shorter;rw [from_len] at this;unfold at_
 omega
theorem all_seq (s:ByteArray) (xs:List Sexp) (hs:s.size<=100000) (h:RdSeq s 0 xs) (w:World) :
  Calls Tryz.prog 22 #[.string s] w fun e w'=>∃ A c,e=.returned (.tuple #[.slice A xs.length c,.int .i64 s.size,.int .i64 0])/\Below w.heap.size w w':=by
 have HRd:=kp h;clear h
 go_enter Tryz.func22,Tryz.ntmps22
 go_wp2_with fail
 go_loopw [2,3] (fun o a wr=>∃ (p:Nat) (ys:List Sexp) (pre:List Three) (A:Option Addr) (c:Nat),a=.int .i64 p/\o=.slice A pre.length c/\RdSeq s p ys/\pre.length+ys.length=xs.length/\pre.length<=p/\PRow valT 81 3 w.heap.size wr (.slice A pre.length c) pre/\Below w.heap.size w wr) (fun _ a _=>s.size - (intOf a).toNat)
 case atStart=>exact⟨0,xs,[],none,0,rfl,rfl,HRd.out,by simp,by simp,PRow.nil _ _ _ _ _,Below.refl _ _⟩
 case round =>
  obtain ⟨p,ys,pre,A,c,rfl,rfl,hseq,hlen,hpre,hrow,hb⟩:=hrel;have HB:=kp hb;have HRow:=kp hrow;have hp:=hseq.le;have HK:=kp (fun W=>skip_any s p W hp (by omega));have HLe:=kp hlen;clear hb hrow hlen
  cases hseq with
  | nil hp' hn =>
   rw [skipP_end hn] at HK;have HE:=kp HLe.out;generalize pre.length=m at *
   go_wp2_with (go_at_call 42;refine(HK.out _).mono ?_;rintro e w2 ⟨rfl,rfl⟩)
   refine bodyPost_ret (v:=.tuple #[.slice A m c,.int .i64 (s.size:Int),.int .i64 0]) ?_ rfl ⟨A,c,by rw [← HE.out];simp,HB.out⟩;simp [results,Tryz.results22,go_sem]
  | @cons _ x r zs hp' hr hd hrest =>
   obtain ⟨hq1,hq2,hr2⟩:=rd_place hp' hr;obtain ⟨hn1,hn2⟩:=rd_next hp' hr;have HR:=kp (fun W=>sread_any s (skipP s p) W x r (by omega) hs hd hr2);have HSq:=kp hrest;clear hrest hr hr2 hd;generalize skipP s p=q at *;generalize at_ s r=p' at *;have hne:¬ ((q:Int)=(s.size:Int)):=by omega
   unfold ReadPost at HR;have hpm:pre.length < 100000000000:=by omega
   go_wp2_with (go_at_call 42;refine(HK.out _).mono ?_;rintro e w2 ⟨rfl,rfl⟩)
   refine(HR.out _).mono ?_;rintro e w3 ⟨A3,c3,rfl,_,hb3⟩;have B3:=kp (HB.out.trans (hb3.mono HB.out.size));have P3:=kp (HRow.out.below hb3);have hz3:=B3.out.size;have B4:=kp ((B3.out.alloc hz3 (.cells #[.int .i8 x.kind,.string x.text,.slice A3 x.l.length c3] 81)).alloc (by simp;omega) (.cells #[.int .i8 x.kind,.string x.text,.slice A3 x.l.length c3] 81))
   have X4:=kp (show((w3.alloc (.cells #[.int .i8 x.kind,.string x.text,.slice A3 x.l.length c3] 81)).alloc (.cells #[.int .i8 x.kind,.string x.text,.slice A3 x.l.length c3] 81)).heap[w3.heap.size+1]?=some (.cells #[.int .i8 x.kind,.string x.text,.slice A3 x.l.length c3] 81 (0,0)) by
    have h:=Bk.new (w3.alloc (.cells #[.int .i8 x.kind,.string x.text,.slice A3 x.l.length c3] 81)) (.cells #[.int .i8 x.kind,.string x.text,.slice A3 x.l.length c3] 81)
    rwa [show(w3.alloc (.cells #[.int .i8 x.kind,.string x.text,.slice A3 x.l.length c3] 81)).heap.size=w3.heap.size+1 by simp] at h)
   have P4:=kp ((P3.out.below ((brq w3).alloc nlq (.cells #[.int .i8 x.kind,.string x.text,.slice A3 x.l.length c3] 81))).below ((Below.refl _ (w3.alloc (.cells #[.int .i8 x.kind,.string x.text,.slice A3 x.l.length c3] 81))).alloc nlq (.cells #[.int .i8 x.kind,.string x.text,.slice A3 x.l.length c3] 81)));have hz4:=B4.out.size;generalize x.l.length=xl at *
   obtain ⟨U,hU⟩:∃ U:Three,valT U=[.int .i8 x.kind,.string x.text,.slice A3 xl c3]:=⟨⟨[.int .i8 x.kind,.string x.text,.slice A3 xl c3],rfl,fun u hu=>by
    simp only [List.mem_cons,List.mem_nil_iff,or_false] at hu;rcases hu with rfl | rfl | rfl <;> rfl⟩,rfl⟩
   have X5:=kp (show((w3.alloc (.cells #[.int .i8 x.kind,.string x.text,.slice A3 xl c3] 81)).alloc (.cells #[.int .i8 x.kind,.string x.text,.slice A3 xl c3] 81)).heap[w3.heap.size+1]?=some (.cells (valT U).toArray 81 (0,0)) by rw [hU];exact X4.out);clear hU;clear X4
   go_wp2_with (at_builtin;refine push_row tyS valT_len valT_one (u:=U) rfl (.tmp 29) (.tmp 31) rfl rfl rfl P4.out rfl X5.out hpm ?c1 ?_)
   case c1=>omega
   intro A9 c9 w9 hp9 hg9;have BG:=kp (B4.out.grown hg9 (by omega) (fun j e=>(P4.out.lt _ e).1));have P9:=kp hp9;have HLe2:=kp (show(pre ++ [U]).length+zs.length=xs.length by have:=HLe.out;simp at this ⊢;omega);have HLe3:=kp (show(pre ++ [U]).length=pre.length+1 by simp);clear hp9 hg9;go_wp2_with fail
   go_roundw
   case rel=>exact⟨p',zs,pre ++ [U],A9,c9,rfl,by rw [HLe3.out],HSq.out,HLe2.out,by rw [HLe3.out];omega,by rw [HLe3.out];exact P9.out,BG.out⟩
   case measure=>simp [intOf];omega
attribute [local go_sem] Oper.semAt_some
def valE (x:Ex):List Value:=[.int .i8 x.1,.int .i64 x.2.1,.string ⟨x.2.2.toArray⟩]
theorem valE_len (x:Ex):(valE x).length=3:=rfl
theorem valE_one (x:Ex):∀ u ∈ valE x,u.oneCell'=true:=fun u hu=>by
 unfold valE at hu;simp only [List.mem_cons,List.mem_nil_iff,or_false] at hu;rcases hu with rfl | rfl | rfl <;> rfl
theorem tyE:PTy 33 24 3 32:=⟨Tryz.underlying33,⟨.agg #[.int .i8 0,.int .i64 0,.string ⟨#[]⟩],by kernel_rfl,rfl⟩,by decide,by decide⟩
def exUpto (n:Nat) (l:List UInt8) (i:Nat):List Ex:=((List.range i).filter fun k=>Lib.hasPrefix l (mark k)).map fun(k:Nat)=>(Int.ofNat k,n,wordsL k l)
theorem exUpto_yes {n:Nat} {l:List UInt8} {i:Nat} (h:Lib.hasPrefix l (mark i)=true):exUpto n l (i+1)=exUpto n l i ++ [(Int.ofNat i,n,wordsL i l)]:=by
 unfold exUpto;simp [List.range_succ,List.filter_append,h]
theorem exUpto_no {n:Nat} {l:List UInt8} {i:Nat} (h:Lib.hasPrefix l (mark i)=false):exUpto n l (i+1)=exUpto n l i:=by
 unfold exUpto;simp [List.range_succ,List.filter_append,h]
theorem wayC_at {w:World} {b:Nat} (h:w.heap[b]?=some (.cells wayC 41 (0,0))) {m:Nat} (hm:m < 3):w.cell? ⟨b,m * 2,none⟩=some (.string ⟨(mark m).toArray⟩)/\∃ f,w.cell? ⟨b,m * 2+1,none⟩=some (.func (.func f) #[] #[]):=by
 unfold wayC at h;obtain ⟨a0,a1,a2,a3,a4,a5,_⟩:=Bk.c6 h;obtain rfl | rfl | rfl:m=0\/m=1\/m=2:=by omega
 ·exact⟨a0,_,a1⟩
 ·exact⟨a2,_,a3⟩
 ·exact⟨a4,_,a5⟩
theorem exUpto_len (n:Nat) (l:List UInt8) (i:Nat):(exUpto n l i).length<=i:=by
 unfold exUpto;rw [List.length_map];exact Nat.le_trans (List.length_filter_le _ _) (by simp)
def expI (ahead:Nat->Nat) (xs:List (Nat × ByteArray)):List Ex:=(xs.map fun x=>exUpto (ahead x.1) (Lx.bs x.2) 3).flatten
theorem expI_snoc (ahead:Nat->Nat) (xs:List (Nat × ByteArray)) (x:Nat × ByteArray):expI ahead (xs ++ [x])=expI ahead xs ++ exUpto (ahead x.1) (Lx.bs x.2) 3:=by
 unfold expI;rw [List.map_append,List.flatten_append];simp
theorem expI_len (ahead:Nat->Nat):∀ xs:List (Nat × ByteArray),(expI ahead xs).length<=3 * xs.length
 | []=>nlq
 | x :: xs=>by
  have h1:=exUpto_len (ahead x.1) (Lx.bs x.2) 3;have h2:=expI_len ahead xs;show(exUpto (ahead x.1) (Lx.bs x.2) 3 ++ expI ahead xs).length<=_;rw [List.length_append,List.length_cons]
  omega
theorem expI_at (ahead:Nat->Nat) (s:ByteArray):∀ (n p:Nat),s.size - p<=n->expI ahead (itemsAt s p)=expectsF ahead p (linesT (from_ s p))
 | 0,p,h=>by
  rw [itemsAt_end (by omega),from_end (by omega)]
  rfl
 | n+1,p,h=>by
  by_cases hp:p < s.size
  ·have hn:=lineN_at hp;have hb:Lx.bs (s.extract p (p+lineN (from_ s p)))=(from_ s p).take (lineN (from_ s p)):=by rw [extract_from,Lx.bs_mk,show p+lineN (from_ s p) - p=lineN (from_ s p) by omega]
   have hl:((from_ s p).take (lineN (from_ s p))).length=lineN (from_ s p):=by rw [List.length_take,from_len];omega
   rw [itemsAt_cons hp,linesT_cons (by rw [from_at hp];simp)];show exUpto (ahead p) (Lx.bs (s.extract p (p+lineN (from_ s p)))) 3 ++ expI ahead (itemsAt s (p+lineN (from_ s p)))=exL (ahead p) _ ++ expectsF ahead (p+_) _;rw [expI_at ahead s n _ (by omega),hb,hl,show(from_ s p).drop (lineN (from_ s p))=from_ s (p+lineN (from_ s p)) by unfold from_;rw [List.drop_drop]]
   rfl
  ·rw [itemsAt_end (by omega),from_end (by omega)]
   rfl
theorem expects_items (ahead:Nat->Nat) (s:ByteArray):expectsL ahead (Lx.bs s)=expI ahead (itemsAt s 0):=(expI_at ahead s s.size 0 (by omega)).symm
structure EW (w:World) (s:ByteArray) (W:World) (out:List Ex):Prop where
 txt:W.heap[w.heap.size]?=some (.cells #[.string s] 9 (0,0))
 box:∃ A c,W.heap[w.heap.size+1]?=some (.cells #[.slice A out.length c] 33 (0,0))/\PRow valE 24 3 (w.heap.size+3) W (.slice A out.length c) out
 size:w.heap.size+3<=W.heap.size
 below:Below w.heap.size w W
theorem own_ew {β:Type} {w:World} {s:ByteArray} {B:Nat} {f:β->List Ex} (hB:w.heap.size<=B):OwnFrom B (fun(x:β) W=>EW w s W (f x)):=fun x W W' row hs hg hr=>by
 have hk:=CellsKept.own hg hr;obtain ⟨A,c,hb,hp⟩:=hs.box;exact⟨hk.2 _ _ _ _ hs.txt,⟨A,c,hk.2 _ _ _ _ hb,hp.kept hk⟩,Nat.le_trans hs.size hg.size,hs.below.grown hg hs.below.size (fun j e=>Nat.le_trans hB (hr j e).1)⟩
theorem EW.on {w W W':World} {s:ByteArray} {out:List Ex} (h:EW w s W out) (hb:Below W.heap.size W W'):EW w s W' out:=by
 obtain ⟨A,c,h1,h2⟩:=h.box;exact⟨Bk.on h.txt hb,⟨A,c,Bk.on h1 hb,h2.below hb⟩,Nat.le_trans h.size hb.size,h.below.trans (hb.mono h.below.size)⟩
theorem PRow.unlike {α:Type} {val:α->List Value} {t:TypeId} {n base:Nat} {w:World} {v:Value} {xs:List α} (h:PRow val t n base w v xs) {b:Nat} {c:Array Value} {t2:TypeId} {z:Nat × Nat} (hb:w.heap[b]?=some (.cells c t2 z)) (hne:t2≠t):¬ some b=v.ownBlock:=fun e=>by
 rcases h.own.2 with⟨h1,_⟩ | ⟨g,cap,cur,h1,_,hat,_⟩
 ·subst h1;cases e
 ·subst h1
  cases e
  rw [hb] at hat
  cases hat
  exact hne rfl
def ExpAx (w:World) (s:ByteArray) (x:ItemOf s) (a:Act) (W:World):Prop:=∃ Bx,w.heap.size+3<=Bx/\W.heap[Bx]?=some (.cells #[.int .i64 x.1.1,.string x.1.2] 46 (0,0)) /\
 a={ tmps:=#[.string s,.pointer (some ⟨w.heap.size,0,none⟩),.pointer (some ⟨w.heap.size+1,0,none⟩),.pointer (some ⟨Bx,0,none⟩),undef,undef,undef,undef,undef,undef,undef,.string s,.func (.func 27) #[] #[.pointer (some ⟨w.heap.size+2,0,none⟩)],.agg #[.int .i64 x.1.1,.string x.1.2],undef,undef,undef,undef,undef,undef,undef,undef,undef,undef,undef,undef,undef,undef,undef,undef,undef,undef,undef,undef,undef,undef,undef,undef,undef,undef,undef,undef,undef,undef,undef,undef,undef,undef,undef,undef,undef,undef,undef,undef],defers:=[] }
theorem own_eax {w:World} {s:ByteArray} {B:Nat} (x:ItemOf s) (a:Act):OwnFrom B (fun(_:Unit) W=>ExpAx w s x a W):=fun _ W W' row hs hg hr=>by
 obtain ⟨Bx,h1,h2,h4⟩:=hs;exact⟨Bx,h1,(CellsKept.own hg hr).2 _ _ _ _ h2,h4⟩
theorem expects_any (s:ByteArray) (hs:s.size<=100000) (ahead:Nat->Nat) (hah:∀ x ∈ itemsAt s 0,∀ k,k < 3->Lib.hasPrefix (Lx.bs x.2) (mark k)=true->∃ xs,RdSeq (s.extract 0 x.1) 0 xs/\xs.length=ahead x.1) (w:World) :
  Calls Tryz.prog 9 #[.string s] w fun e w'=>∃ A c,e=.returned (.slice A (expectsL ahead (Lx.bs s)).length c)/\PRow valE 24 3 w.heap.size w' (.slice A (expectsL ahead (Lx.bs s)).length c) (expectsL ahead (Lx.bs s))/\Below w.heap.size w w':=by
 have HAh:=kp hah;clear hah;refine calls_marks Tryz.func9 rfl ?_;simp only [Tryz.ntmps9,List.size_toArray,List.length_cons,List.length_nil,Nat.reduceAdd,Nat.reduceSub,Array.replicate_succ,Array.replicate_zero,List.push_toArray,List.append_toArray,List.nil_append,List.cons_append];go_upto_region 1 with fail
 have T1:=kp (Bk.keep (Bk.new w (.cells #[.string s] 9)) (.cells #[.slice none 0 0] 33));have X1:=kp (Bk.new (w.alloc (.cells #[.string s] 9)) (.cells #[.slice none 0 0] 33));rw [show(w.alloc (.cells #[.string s] 9)).heap.size=w.heap.size+1 by simp] at X1;have B1:=kp (((brq w).alloc nlq (.cells #[.string s] 9)).alloc (by simp) (.cells #[.slice none 0 0] 33));have hz1:((w.alloc (.cells #[.string s] 9)).alloc (.cells #[.slice none 0 0] 33)).heap.size=w.heap.size+2:=by simp
 generalize (w.alloc (.cells #[.string s] 9)).alloc (.cells #[.slice none 0 0] 33)=w1 at *;obtain ⟨t0,_⟩:=Bk.c1 T1.out;go_wp2_with fail
 refine(lines_any s w1).mono ?_;rintro e w2' ⟨rfl,rfl⟩;have T2:=kp (Bk.keep T1.out (.cells #[.string s] 9));have X2:=kp (Bk.keep X1.out (.cells #[.string s] 9));have Y2:=kp (Bk.new w1 (.cells #[.string s] 9));rw [hz1] at Y2;have B2:=kp (B1.out.alloc (by omega) (.cells #[.string s] 9));have hz2:(w1.alloc (.cells #[.string s] 9)).heap.size=w.heap.size+3:=by simp;omega
 generalize w1.alloc (.cells #[.string s] 9)=w2 at *;clear t0;go_wp2_with fail
 refine wp_rangeH (α:=ItemOf s) (gf:=27) (lb:=#[.pointer (some ⟨w.heap.size+2,0,none⟩)]) rfl (enters_of Tryz.func27 (by kernel_rfl) rfl)
  (lines_stops (n0:=w2.heap.size) (rb:=w.heap.size+1) (Bk.c1 Y2.out).1 (by omega) (by omega) nlq (by omega)) (fun h k=>KeptTo.trans h k) (KeptTo.put nlq) (fun _=>rfl)
  (fun pre W=>EW w s W (expI ahead (pre.map Subtype.val))/\KeepsFrom 0 w2 W) (fun _ _ _=>False) (OwnFrom.and (own_ew (by omega)) (ownFrom_keepsFrom nlq)) (fun _ _ _ _ _ hs _ _=>hs) ⟨⟨T2.out,⟨none,0,X2.out,PRow.nil _ _ _ _ _⟩,by omega,B2.out⟩,KeepsFrom.refl _ _⟩
  (ExpAx w s) (fun x a'=>own_eax x a') ?assign ?body ?done ?stop
 case assign =>
  rintro l pre x W K ⟨hp,hk⟩ hK;unfold encI
  gi_wp2
  have hb:=(brq W).alloc nlq (.cells #[.int .i64 (x.1.1:Int),.string x.1.2] 46);have hsz:=hp.size;exact hK _ _ ((KeepsOthers.alloc _ _).from _) (KeptTo.of_below (hb.mono (by omega))) ⟨hp.on hb,hk.trans ((KeepsOthers.alloc _ _).from 0)⟩ ⟨_,by omega,Bk.new W _,rfl⟩
 case body =>
  rintro l pre x a' W ⟨hp,hk⟩ ⟨Bx,hB,hX,rfl⟩ hlen;have hxb:=item_bounds s.size 0 (by omega) x.1 x.2;have hls:x.1.2.size<=s.size:=by rw [hxb.2.2,ByteArray.size_extract];omega
  have hxs:=hxb.2.1;have HAx:=kp (HAh.out x.1 x.2);have HSn:=kp (show expI ahead ((pre ++ [x]).map Subtype.val)=expI ahead (pre.map Subtype.val) ++ exUpto (ahead x.1.1) (Lx.bs x.1.2) 3 by rw [List.map_append];exact expI_snoc _ _ _)
  have HOl:=kp (show(expI ahead (pre.map Subtype.val)).length<=300000 from by
   have h1:=expI_len ahead (pre.map Subtype.val);have h2:=items_len (s:=s) s.size 0 (by omega);rw [List.length_map] at h1
   omega)
  have HPW:=kp hp;have HK:=kp hk;have HBx:=kp hX;clear hxb hlen hp hk hX;generalize expI ahead (pre.map Subtype.val)=out at *;obtain ⟨⟨px,t⟩,hxm⟩:=x
  dsimp only at *
  gi_wp2
  refine⟨trivial,?_⟩;refine(callsIn_round (ways_any W)).mono ?_;rintro e w3 ⟨rfl,rfl⟩;have YB:=kp (Bk.new W (.cells wayC 41));have BB:=kp ((brq W).alloc nlq (.cells wayC 41));have HB0:=kp (Bk.keep HBx.out (.cells wayC 41));have hsz:=HPW.out.size
  have H0:=kp (show EW w s (W.alloc (.cells wayC 41)) (out ++ exUpto (ahead px) (Lx.bs t) 0) from by
   rw [show exUpto (ahead px) (Lx.bs t) 0=[] from rfl,List.append_nil];exact HPW.out.on BB.out)
  have HK0:=kp (show KeptTo (w.heap.size+3) (w.heap.size+1) W (W.alloc (.cells wayC 41)) from KeptTo.of_below (BB.out.mono (by omega)));have HO0:=kp (KeepsOthers.alloc W (.cells wayC 41));generalize W.alloc (.cells wayC 41)=w3 at *
  gi_wp2
  gi_loopw [16] (fun i wr=>∃ (m:Nat),m<=3/\i=.int .i64 m/\EW w s wr (out ++ exUpto (ahead px) (Lx.bs t) m)/\KeptTo (w.heap.size+3) (w.heap.size+1) W wr/\KeepsOthers W wr/\wr.heap[Bx]?=some (.cells #[.int .i64 px,.string t] 46 (0,0))/\wr.heap[W.heap.size]?=some (.cells wayC 41 (0,0))) (fun i _=>3 - (intOf i).toNat)
  case atStart=>exact⟨0,by omega,rfl,H0.out,HK0.out,HO0.out,HB0.out,YB.out⟩
  case round =>
   obtain ⟨m,hm,rfl,he,hk,ho,hbx,hyb⟩:=hrel;have HE:=kp he;have HKw:=kp hk;have HOw:=kp ho;have HBw:=kp hbx;have HYw:=kp hyb;clear he hk ho hbx hyb
   by_cases hm3:m < 3
   ·have hmi:(m:Int) < 3:=by omega
    obtain ⟨c0,f,c1⟩:=wayC_at HYw.out hm3;have XA:=kp (Bk.keep HBw.out (.cells #[.string ⟨(mark m).toArray⟩,.func (.func f) #[] #[]] 41));have XW:=kp (Bk.new wr (.cells #[.string ⟨(mark m).toArray⟩,.func (.func f) #[] #[]] 41));have BA:=kp ((brq wr).alloc nlq (.cells #[.string ⟨(mark m).toArray⟩,.func (.func f) #[] #[]] 41));have EA:=kp (HE.out.on BA.out);have OA:=kp (HOw.out.trans (KeepsOthers.alloc wr (.cells #[.string ⟨(mark m).toArray⟩,.func (.func f) #[] #[]] 41)));have hwz:=HE.out.size;have KA:=kp (HKw.out.trans (KeptTo.of_below (BA.out.mono hwz)));have YA:=kp (Bk.keep HYw.out (.cells #[.string ⟨(mark m).toArray⟩,.func (.func f) #[] #[]] 41));obtain ⟨x0,x1,xf⟩:=Bk.c2 XA.out;obtain ⟨v0,v1,vf⟩:=Bk.c2 XW.out
    have HCp:=kp (fun W=>(Tryz.strings_CutPrefix t ⟨(mark m).toArray⟩ W).mono (R':=fun e w'=>e=.returned (.tuple #[.string ⟨(Lib.trimPrefix (Lx.bs t) (mark m)).toArray⟩,.bool (Lib.hasPrefix (Lx.bs t) (mark m))])/\w'=W) (fun e w' h=>by
     have e1:(⟨(mark m).toArray⟩:ByteArray).data.toList=mark m:=by simp
     rw [e1] at h;exact h))
    gi_wp2
    refine⟨trivial,?_⟩;refine(callsIn_round (HCp.out _)).mono ?_;rintro e w5 ⟨rfl,rfl⟩;generalize wr.alloc (.cells #[.string ⟨(mark m).toArray⟩,.func (.func f) #[] #[]] 41)=w4 at *
    cases hh:Lib.hasPrefix (Lx.bs t) (mark m)
    ·have HNo:=kp (exUpto_no (n:=ahead px) hh)
     gi_wp2
     go_roundw
     case rel=>exact⟨m+1,by omega,by go_num,by rw [HNo.out];exact EA.out,KA.out,OA.out,XA.out,YA.out⟩
     case measure=>simp [intOf];omega
    ·have HYes:=kp (show out ++ exUpto (ahead px) (Lx.bs t) (m+1)=(out ++ exUpto (ahead px) (Lx.bs t) m) ++ [(Int.ofNat m,ahead px,wordsL m (Lx.bs t))] from(congrArg (out ++ ·) (exUpto_yes (n:=ahead px) hh)).trans (List.append_assoc _ _ _).symm);obtain ⟨xs,hsq,hxl⟩:=HAx.out m hm3 hh;have HAl:=kp (fun W=>all_seq (s.extract 0 px) xs (by rw [ByteArray.size_extract];omega) hsq W);have HTx:=kp EA.out.txt;obtain ⟨s0,sf⟩:=Bk.c1 EA.out.txt;have hpx:(px:Int)<=(s.size:Int):=by omega
     rw [hxl] at HAl
     have hwl:(Lib.trimPrefix (Lx.bs t) (mark m)).length<=s.size:=by
      have:=trimP_le (Lx.bs t) (mark m);rw [Lx.bs_length] at this
      omega
     have hwl2:(Lib.trimSuffix (Lib.trimPrefix (Lx.bs t) (mark m)) [10]).length<=s.size:=Nat.le_trans (trimX_le _ _) hwl;have HTs:=kp (fun W=>(Tryz.strings_TrimSuffix ⟨(Lib.trimPrefix (Lx.bs t) (mark m)).toArray⟩ ⟨#[10]⟩ W (by rw [← Lx.bs_length,Lx.bs_mk];omega)).mono (R':=fun e w'=>e=.returned (.string ⟨(Lib.trimSuffix (Lib.trimPrefix (Lx.bs t) (mark m)) [10]).toArray⟩)/\w'=W) (fun e w' h=>h));have HTr:=kp (fun W=>(Tryz.strings_TrimRight_one ⟨(Lib.trimSuffix (Lib.trimPrefix (Lx.bs t) (mark m)) [10]).toArray⟩ 13 (by decide) W (by rw [← Lx.bs_length,Lx.bs_mk];omega)).mono (R':=fun e w'=>e=.returned (.string ⟨(wordsL m (Lx.bs t)).toArray⟩)/\w'=W) (fun e w' h=>h));generalize wordsL m (Lx.bs t)=wd at *;have HLo:=kp (show(out ++ exUpto (ahead px) (Lx.bs t) m).length < 100000000000 by rw [List.length_append];have h1:=exUpto_len (ahead px) (Lx.bs t) m;have h2:=HOl.out;omega);have hw8:IntKind.i8.wrap (m:Int)=(m:Int):=by simp [IntKind.wrap,IntKind.signed,IntKind.bits];omega
     generalize out ++ exUpto (ahead px) (Lx.bs t) m=cur at *;generalize hna:ahead px=na at *;have HNa:=kp hna;clear hna
     gi_wp2
     refine⟨trivial,?_⟩;refine(callsIn_round (HAl.out _)).mono ?_;rintro e w5 ⟨A5,c5,rfl,hb5⟩;have B5:=kp hb5;have E5:=kp (EA.out.on hb5);clear hb5
     gi_wp2
     refine⟨trivial,?_⟩;refine(callsIn_round (HTs.out _)).mono ?_;rintro e w6 ⟨rfl,rfl⟩
     gi_wp2
     refine⟨trivial,?_⟩;refine(callsIn_round (HTr.out _)).mono ?_;rintro e w7 ⟨rfl,rfl⟩;obtain ⟨A,c,hbx,hrow⟩:=E5.out.box;obtain ⟨cl,hcl⟩:∃ cl,cur.length=cl:=⟨_,rfl⟩;have hcl2:=HLo.out;rw [hcl] at hbx hrow hcl2;have HCl:=kp hcl;clear hcl;obtain ⟨b0,bf⟩:=Bk.c1 hbx;have Y7:=kp hbx;have B8:=kp ((brq w7).alloc nlq (.cells #[.int .i8 (m:Int),.int .i64 (na:Int),.string ⟨wd.toArray⟩] 24));have X8:=kp (Bk.new w7 (.cells #[.int .i8 (m:Int),.int .i64 (na:Int),.string ⟨wd.toArray⟩] 24));have P8:=kp (hrow.below B8.out);have Y8:=kp (Bk.keep hbx (.cells #[.int .i8 (m:Int),.int .i64 (na:Int),.string ⟨wd.toArray⟩] 24));have hz8:=B8.out.size;have hz5:=E5.out.size;clear hbx hrow
     gi_wp2_with (gi_at_builtin;refine push_rowIn tyE valE_len valE_one (u:=(Int.ofNat m,na,wd)) rfl (.tmp 43) (.tmp 50) rfl HCl.out rfl P8.out rfl X8.out hcl2 ?c1 ?_)
     case c1=>omega
     intro A9 c9 w9 hp9 hg9;have Y9:=kp ((hg9.block (w.heap.size+1) (lt_of_block Y8.out) (fun e=>by have:=P8.out.lt _ e.symm;omega)).trans Y8.out);have HP9:=kp hp9;have HG9:=kp hg9;have hz9:=hg9.size
     have HB9:=kp (show ∀ (b:Nat) (cs:Array Value) (t2:TypeId),t2≠24->b≠w.heap.size+1->w4.heap[b]?=some (.cells cs t2 (0,0))->(w9.setCell ⟨w.heap.size+1,0,none⟩ (.slice A9 (cl+1) c9)).heap[b]?=some (.cells cs t2 (0,0)) from fun b cs t2 hne hb h=>by
      have h8:=Bk.keep (Bk.on h B5.out) (.cells #[.int .i8 (m:Int),.int .i64 (na:Int),.string ⟨wd.toArray⟩] 24);exact(Below.heap_setCell w9 ⟨w.heap.size+1,0,none⟩ _ b hb).trans ((HG9.out.block b (lt_of_block h8) (PRow.unlike P8.out h8 hne)).trans h8))
     clear hp9 hg9 b0 bf;obtain ⟨b0,bf⟩:=Bk.c1 Y9.out
     gi_wp2
     have E9:=kp (show EW w s (w9.setCell ⟨w.heap.size+1,0,none⟩ (.slice A9 (cl+1) c9)) (out ++ exUpto na (Lx.bs t) (m+1)) from by
      rw [HYes.out];have h9:=Bk.set_at Y9.out 0 (.slice A9 (cl+1) c9);have hln:(cur ++ [(Int.ofNat m,na,wd)]).length=cl+1:=by rw [List.length_append,HCl.out];rfl
      refine⟨HB9.out _ _ _ (by decide) (by omega) HTx.out,⟨A9,c9,by rw [hln];exact h9,by rw [hln];exact HP9.out.same (SameIn.setCell _ _ _ _ _ (Or.inl (by show w.heap.size+1 < w.heap.size+3;omega)))⟩,by show _<=(w9.setCell _ _).heap.size;simp only [World.setCell,Array.size_modify];omega,?_⟩;exact(((E5.out.below.trans (B8.out.mono E5.out.below.size))).grown HG9.out (by omega) (fun j e=>by have:=(P8.out.lt _ e).1;omega)).setCell (p:=⟨w.heap.size+1,0,none⟩) (by show w.heap.size<=w.heap.size+1;omega) _)
     have O9:=kp ((((OA.out.trans (others_of_below B5.out)).trans (others_of_below B8.out)).trans (KeepsOthers.of_grownBy HG9.out P8.out.row_cells)).trans (KeepsOthers.setCell w9 ⟨w.heap.size+1,0,none⟩ (.slice A9 (cl+1) c9)))
     have K9:=kp (show KeptTo (w.heap.size+3) (w.heap.size+1) W (w9.setCell ⟨w.heap.size+1,0,none⟩ (.slice A9 (cl+1) c9)) from by
      have hz4:=KA.out.1;have hz45:=B5.out.size;refine⟨O9.out.size,fun b h1 h2=>?_⟩;refine(Below.heap_setCell w9 ⟨w.heap.size+1,0,none⟩ _ b h2).trans ((HG9.out.block b (by omega) (fun e=>?_)).trans ((B8.out.block b (by omega)).trans ((B5.out.block b (by omega)).trans (KA.out.2 b h1 h2))));have:=P8.out.lt _ e.symm
      omega)
     have X9:=kp (HB9.out _ _ _ (by decide) (by omega) XA.out);have V9:=kp (HB9.out _ _ _ (by decide) (by omega) YA.out);go_roundw
     case rel=>exact⟨m+1,by omega,by go_num,by rw [HNa.out];exact E9.out,K9.out,O9.out,X9.out,V9.out⟩
     case measure=>simp [intOf];omega
   ·obtain rfl:m=3:=by omega
    gi_wp2
    exact⟨HOw.out.from _,by rw [hz2];exact HKw.out,by rw [HSn.out];exact HE.out,HK.out.trans (HOw.out.from 0)⟩
 case done =>
  rintro D xs W hD hS ⟨hp,hk⟩ hM;have HFin:=kp (show expectsL ahead (Lx.bs s)=expI ahead (xs.map Subtype.val) by rw [expects_items,hS]);have HPW:=kp hp;obtain ⟨A,c,hb,hpr⟩:=hp.box;obtain ⟨b0,bf⟩:=Bk.c1 hb;have HBx:=kp hb;clear hp hb;generalize expI ahead (xs.map Subtype.val)=out at *;go_wp2_with fail
  have BE:=kp (HPW.out.below.setCell (p:=⟨w.heap.size+1,0,none⟩) (by show w.heap.size<=w.heap.size+1;omega) (.slice A out.length c));have XE:=kp (show(W.setCell ⟨w.heap.size+1,0,none⟩ (.slice A out.length c)).heap[w.heap.size+1]?=some (.cells #[.slice A out.length c] 33 (0,0)) from Bk.set_at HBx.out 0 (.slice A out.length c));have PE:=kp (hpr.same (SameIn.setCell (w.heap.size+3) W.heap.size W ⟨w.heap.size+1,0,none⟩ (.slice A out.length c) (Or.inl (by show w.heap.size+1 < w.heap.size+3;omega))));have hMd:=(Below.heap_setCell W ⟨w.heap.size+1,0,none⟩ (.slice A out.length c) D (by show D≠w.heap.size+1;omega)).trans hM;rw [HFin.out];refine(Marks.one (B:=w.heap.size) (by omega) hMd).leaves (fun w' hc hb=>⟨.slice A out.length c,?_,A,c,rfl,?_,BE.out.trans hb⟩)
  ·obtain ⟨y0,_⟩:=Bk.c1 (hc _ _ XE.out rfl);simp [results,Tryz.results9,go_sem,y0]
  ·exact(PE.out.mono (by omega)).kept ⟨hb.size,fun b cs t z h=>hc _ _ h rfl⟩
 case stop =>
  rintro D c pre W _ _ h _;exact h.elim
end Bn
namespace Dr
open Go Go.RowKit Dt Bn
attribute [local go_sem] Oper.semAt_some
def valS (x:ByteArray):List Value:=[.string x]
theorem valS_len (x:ByteArray):(valS x).length=1:=rfl
theorem valS_one (x:ByteArray):∀ u ∈ valS x,u.oneCell'=true:=fun u hu=>by
 obtain rfl:u=.string x:=by simpa [valS] using hu
 rfl
theorem tyStr:PTy 25 9 1 16:=⟨Tryz.underlying25,⟨.string ⟨#[]⟩,by kernel_rfl,rfl⟩,by decide,by decide⟩
theorem answer_any {w:World} {rb:Nat} {A:Option Addr} {c:Nat} {xs:List ByteArray} (x:ByteArray) (hb:w.heap[rb]?=some (.cells #[.slice A xs.length c] 25 (0,0))) (h:PRow valS 9 1 (rb+1) w (.slice A xs.length c) xs) (hl:xs.length < 1000000) :
  Calls Tryz.prog 52 #[.string x,.pointer (some ⟨rb,0,none⟩)] w fun e w'=>∃ A' c' v,e=.returned v/\w'.heap[rb]?=some (.cells #[.slice A' (xs.length+1) c'] 25 (0,0))/\PRow valS 9 1 (rb+1) w' (.slice A' (xs.length+1) c') (xs ++ [x])/\Below rb w w'/\w.heap.size<=w'.heap.size /\
   ∀ (k:Nat) (cs:Array Value) (t:TypeId),t≠9->k≠rb->w.heap[k]?=some (.cells cs t (0,0))->w'.heap[k]?=some (.cells cs t (0,0)):=by
 have hrb:=lt_of_block hb;have HB:=kp hb;have HP:=kp h;obtain ⟨b0,bf⟩:=Bk.c1 hb;clear hb h;have HLn:=kp (show xs.length=xs.length from rfl);generalize hn:xs.length=n at *;have HN:=kp hn;clear hn
 go_enter Tryz.func52,Tryz.ntmps52
 have X1:=kp (Bk.keep HB.out (.cells #[.string x] 9));have B1:=kp ((brq w).alloc nlq (.cells #[.string x] 9));have P1:=kp (HP.out.below B1.out);have Y1:=kp (show(w.alloc (.cells #[.string x] 9)).heap[w.heap.size]?=some (.cells (valS x).toArray 9 (0,0)) from Bk.new w _);have hz1:(w.alloc (.cells #[.string x] 9)).heap.size=w.heap.size+1:=by simp
 have hcl:n < 100000000000:=by omega
 go_wp2_with (at_builtin;refine push_row tyStr valS_len valS_one (u:=x) rfl (.tmp 3) (.tmp 5) rfl HN.out rfl P1.out rfl Y1.out hcl ?c1 ?_)
 case c1=>omega
 intro A9 c9 w9 hp9 hg9;have P9:=kp hp9;have G9:=kp hg9;have X9:=kp ((hg9.block rb (by omega) (fun e=>by have:=(P1.out.lt _ e.symm).1;omega)).trans X1.out);clear hp9 hg9;have hz9:=G9.out.size;have hB9:Below rb w w9:=(B1.out.mono (by omega)).grown G9.out (by omega) (fun j e=>by have:=(P1.out.lt _ e).1;omega);obtain ⟨d0,df⟩:=Bk.c1 X9.out;go_wp2_with fail
 refine⟨rfl,.tuple #[],by simp [results,Tryz.results52,go_sem],A9,c9,_,rfl,Bk.set_at X9.out 0 (.slice A9 (n+1) c9),P9.out.same (SameIn.setCell (rb+1) w9.heap.size w9 ⟨rb,0,none⟩ (.slice A9 (n+1) c9) (Or.inl (Nat.lt_succ_self rb))),?_,?_,?_⟩
 ·exact hB9.setCell (p:=⟨rb,0,none⟩) nlq _
 ·have:(w9.setCell ⟨rb,0,none⟩ (.slice A9 (n+1) c9)).heap.size=w9.heap.size:=by simp [World.setCell]
  omega
 ·intro k cs t hne hk hc;have h8:=Bk.keep hc (.cells #[.string x] 9);exact(Below.heap_setCell w9 ⟨rb,0,none⟩ _ k hk).trans ((G9.out.block k (lt_of_block h8) (PRow.unlike P1.out h8 hne)).trans h8)
end Dr
end Go.Proofs.YtmcbolkpbklfeaaGreatDoor
