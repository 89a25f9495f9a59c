import Derived.Test.YtpmdcckapddchaaGreatDoorShort
import Derived.Test.YtpmdcckapddchaaGreatDoorMb
import Derived.Lib.IndexLaws
/- merged by wip/merge.py from: NextP ReadP -/
set_option maxRecDepth 100000
set_option maxHeartbeats 51200000
namespace Go.Proofs.YtpmdcckapddchaaGreatDoor
namespace Dt
open Go.RowKit
def from_ (s:ByteArray) (k:Nat):List UInt8:=(Lx.bs s).drop k
theorem from_at {s:ByteArray} {k:Nat} (hk:k < s.size):from_ s k=s[k] :: from_ s (k+1):=by
 unfold from_;have h:k < (Lx.bs s).length:=by rw [Lx.bs_length];exact hk
 rw [List.drop_eq_getElem_cons h]
 congr 1
theorem from_end {s:ByteArray} {k:Nat} (hk:s.size<=k):from_ s k=[]:=by
 unfold from_;exact List.drop_eq_nil_of_le (by rw [Lx.bs_length];exact hk)
theorem from_len (s:ByteArray) (k:Nat):(from_ s k).length=s.size - k:=by unfold from_;rw [List.length_drop,Lx.bs_length]
def at_ (s:ByteArray) (l:List UInt8):Nat:=s.size - l.length
theorem from_of_suffix {s:ByteArray} {l:List UInt8} {k:Nat} (h:l <:+ from_ s k):from_ s (at_ s l)=l/\at_ s l<=s.size/\(k<=s.size->k<=at_ s l):=by
 have hl:=h.length_le;rw [from_len] at hl;have hs:l <:+ Lx.bs s:=h.trans (List.drop_suffix _ _);have:=suffix_drop hs;rw [Lx.bs_length] at this;refine⟨this,Nat.sub_le _ _,fun hk=>?_⟩;unfold at_
 omega
theorem at_from {s:ByteArray} {k:Nat} (hk:k<=s.size):at_ s (from_ s k)=k:=by unfold at_;rw [from_len];omega
def skipP (s:ByteArray) (k:Nat):Nat:=at_ s (skipL false (from_ s k))
theorem skip_white {c:UInt8} {r:List UInt8} (h:Lx.whiteI (c.toNat:Int)=true):skipL false (c :: r)=skipL false r:=by rw [skipL,if_pos h]
theorem skip_semi {c:UInt8} {r:List UInt8} (h:Lx.whiteI (c.toNat:Int)=false) (h2:(c.toNat:Int)=59):skipL false (c :: r)=skipL true (c :: r):=by
 have h3:¬ (c.toNat:Int)=10:=by omega
 conv=>lhs;rw [skipL,if_neg (by rw [h];decide),if_pos h2]
 rw [skipL,if_neg h3]
theorem skip_stop {c:UInt8} {r:List UInt8} (h:Lx.whiteI (c.toNat:Int)=false) (h2:¬ (c.toNat:Int)=59):skipL false (c :: r)=c :: r:=by rw [skipL,h,if_neg (by decide),if_neg h2]
def runN (s:ByteArray) (k:Nat):Nat:=((from_ s k).takeWhile sgn).length
theorem runN_more {s:ByteArray} {k:Nat} (hk:k < s.size) (h:Lx.signI (s[k].toNat:Int)=true):runN s k=runN s (k+1)+1:=by
 unfold runN;rw [from_at hk,List.takeWhile_cons,show sgn s[k]=true from h,if_pos rfl,List.length_cons]
theorem runN_stop {s:ByteArray} {k:Nat} (hk:k < s.size) (h:Lx.signI (s[k].toNat:Int)=false):runN s k=0:=by
 unfold runN;rw [from_at hk,List.takeWhile_cons,show sgn s[k]=false from h]
 rfl
theorem runN_end {s:ByteArray} {k:Nat} (hk:s.size<=k):runN s k=0:=by
 unfold runN;rw [from_end hk]
 rfl
theorem runN_le (s:ByteArray) (k:Nat):runN s k<=s.size - k:=by
 unfold runN;rw [← from_len];exact(List.takeWhile_prefix _).length_le
theorem num_parts {s:ByteArray} (h:isNum (Lx.bs s)=true):(∀ k (hk:k < s.size),Lx.digitI (s[k].toNat:Int)=true)/\(s.toList.isEmpty=false)/\0 < s.size/\((s.toList == [48])=false->∀ h:0 < s.size,((s[0].toNat:Int) == 48)=false):=by
 obtain ⟨h1,h2,h3⟩:=isNum_iff.1 h;have hz:0 < s.size:=by rw [← Lx.bs_length];exact List.length_pos_iff.2 h1
 refine⟨fun k hk=>?_,?_,hz,fun h4 h5=>?_⟩
 ·have:=h3 _ (Lx.bs_mem hk);unfold isDig at this;exact this
 ·rw [Lx.bs_toList]
  cases hb:Lx.bs s with
  | nil=>exact absurd hb h1
  | cons a b=>rfl
 ·rw [Lx.bs_toList] at h4;have h6:Lx.bs s=s[0] :: from_ s 1:=by have:=from_at hz;unfold from_ at this;rw [List.drop_zero] at this;exact this
  rw [beq_eq_false_iff_ne];intro h7;have h8:s[0]=48:=by apply UInt8.toNat_inj.1;show s[0].toNat=48;omega
  by_cases h9:1 < (Lx.bs s).length
  ·have:=h2 h9;rw [h6] at this;simp at this;exact this h8
  ·have h10:(from_ s 1)=[]:=by rw [← List.length_eq_zero_iff];rw [h6,List.length_cons] at h9;omega
   rw [h6,h10,h8] at h4;simp at h4
theorem extract_from (s:ByteArray) (i j:Nat):s.extract i j=⟨((from_ s i).take (j - i)).toArray⟩:=by
 apply Lx.bs_inj.1
 rw [Lx.bs_mk];unfold Lx.bs from_ Lx.bs;simp
theorem take_run (s:ByteArray) (j:Nat):(from_ s j).takeWhile sgn=(from_ s j).take (runN s j):=List.prefix_iff_eq_take.1 (List.takeWhile_prefix _)
theorem extract_run (s:ByteArray) (j:Nat):s.extract j (j+runN s j)=⟨((from_ s j).takeWhile sgn).toArray⟩:=by
 rw [extract_from,take_run,show j+runN s j - j=runN s j by omega]
theorem at_run {s:ByteArray} {j:Nat} (hj:j<=s.size):at_ s ((from_ s j).dropWhile sgn)=j+runN s j:=by
 have h:=congrArg List.length (List.takeWhile_append_dropWhile (p:=sgn) (l:=from_ s j));rw [List.length_append,from_len] at h;unfold at_;have h2:=runN_le s j;unfold runN at *
 omega
def TokPost (w:World) (k:Int) (t:List UInt8) (a b:Nat) (e:Ending) (w':World):Prop :=
 e=.returned (.tuple #[.agg #[.int .i8 k,.string ⟨t.toArray⟩,.int .i64 a,.int .i64 b],.bool true,.int .i64 0])/\Below w.heap.size w w'
theorem skip_none:∀ {l:List UInt8},Lib.indexByte l 10=-1->skipL true l=[]
 | [],_=>rfl
 | c :: r,h=>by
  unfold Lib.indexByte at h;have hge:=Lib.indexByte_ge r 10
  by_cases hc:(c == 10)=true
  ·rw [if_pos hc] at h;cases h
  ·rw [if_neg hc] at h;have h1:¬ (c.toNat:Int)=10:=fun e=>hc (by rw [beq_iff_eq];apply UInt8.toNat_inj.1;show c.toNat=10;omega);rw [skipL,if_neg h1];refine skip_none ?_
   by_cases h2:(Lib.indexByte r 10 == -1)=true
   ·simpa using h2
   ·rw [if_neg h2] at h;omega
theorem skip_some:∀ {l:List UInt8} {o:Nat},Lib.indexByte l 10=o->skipL true l=skipL false (l.drop (o+1))
 | [],o,h=>by simp [Lib.indexByte] at h
 | c :: r,o,h=>by
  unfold Lib.indexByte at h;have hge:=Lib.indexByte_ge r 10
  by_cases hc:(c == 10)=true
  ·rw [if_pos hc] at h;obtain rfl:o=0:=by omega
   have h1:(c.toNat:Int)=10:=by rw [beq_iff_eq] at hc;subst hc;rfl
   rw [skipL,if_pos h1];rfl
  ·rw [if_neg hc] at h;have h1:¬ (c.toNat:Int)=10:=fun e=>hc (by rw [beq_iff_eq];apply UInt8.toNat_inj.1;show c.toNat=10;omega)
   by_cases h2:(Lib.indexByte r 10 == -1)=true
   ·rw [if_pos h2] at h;omega
   ·rw [if_neg h2] at h
    obtain ⟨o',rfl⟩:∃ o',o=o'+1:=⟨o - 1,by
     have h3:¬ Lib.indexByte r 10=-1:=by simpa using h2
     omega⟩
    rw [skipL,if_neg h1,skip_some (o:=o') (by omega)]
    rfl
theorem quoted_index:∀ {l n t:List UInt8},quotedL l=some (n,t)->Lib.indexByte l 124=n.length/\l.take n.length=n/\l.drop (n.length+1)=t/\n.length < l.length/\(n.all fun c=>Lx.insideI c.toNat)=true:=by
 intro l n t h;obtain ⟨rfl,hall⟩:=quotedL_split h;refine⟨?_,by simp,?_,by simp,hall⟩
 ·clear h
  induction n with
  | nil=>simp [Lib.indexByte]
  | cons c n ih =>
   rw [List.all_cons,Bool.and_eq_true] at hall
   have hc:¬ (c == 124)=true:=by
    intro e;rw [beq_iff_eq] at e;subst e;exact absurd hall.1 (by decide)
   rw [List.cons_append];unfold Lib.indexByte;rw [if_neg hc,ih hall.2,if_neg (by rw [beq_iff_eq];omega)];simp
 ·rw [show n.length+1=(n ++ [124]).length by simp,show n ++ 124 :: t=(n ++ [124]) ++ t by simp,List.drop_left]
theorem drop_from (s:ByteArray) (p:Nat):(s.extract p s.size).data.toList=from_ s p:=by
 have h:=extract_from s p s.size;rw [h];show(List.take (s.size - p) (from_ s p))=_;exact List.take_of_length_le (by rw [from_len];exact nlq)
abbrev SxB:=Sexp × Option Addr × Nat
def sxV (y:SxB):List Value:=[.int .i8 y.1.kind,.string y.1.text,.slice y.2.1 y.1.l.length y.2.2]
def sxOk (w:World) (y:SxB):Prop:=SexpR w (sxV y) y.1
theorem sxV_len (y:SxB):(sxV y).length=3:=rfl
theorem Rd.shorter {l r:List UInt8} {x:Sexp} (h:Rd l x r):r.length < l.length:=by
 have hsk:∀ {l:List UInt8} {k:Int} {t r:List UInt8},nextL (skipL false l)=.tok k t r->r.length < l.length:=fun {l k t r} h=>by
  have h1:=(nextL_suffix h).2;have h2:=(skipL_suffix false l).length_le
  omega
 induction h with
 | name h hs=>exact hsk h
 | num h hs=>exact hsk h
 | key h hs=>exact hsk h
 | @list l r rest xs f h h0 hc hx hn ih =>
  have hstep:∀ k,k<=xs.length->(f k).length<=r.length:=by
   intro k
   induction k with
   | zero=>intro _;rw [h0];exact nlq
   | succ k ihk=>intro hk;have h1:=ih k xs[k] (gqe (by omega));have h2:=ihk (by omega);omega
  have h1:=hsk h;have h2:=hsk hn;have h3:=hstep xs.length nlq
  omega
def ReadPost (w:World) (x:Sexp) (b:Nat) (e:Ending) (w':World):Prop :=
 ∃ A c,e=.returned (.tuple #[.agg #[.int .i8 x.kind,.string x.text,.slice A x.l.length c],.int .i64 b,.int .i64 0])/\InOk sxOk w.heap.size w'.heap.size w' (x,A,c)/\Below w.heap.size w w'
def set3' (w:World) (b:Nat) (v0 v1 v2:Value):World:=((w.setCell ⟨b,0,none⟩ v0).setCell ⟨b,1,none⟩ v1).setCell ⟨b,2,none⟩ v2
theorem set3'_at {w:World} {b:Nat} {a0 a1 a2:Value} {t:TypeId} (h:w.heap[b]?=some (.cells #[a0,a1,a2] t (0,0))) (v0 v1 v2:Value):(set3' w b v0 v1 v2).heap[b]?=some (.cells #[v0,v1,v2] t (0,0)):=by
 simp [set3',World.setCell,Array.getElem?_modify,h]
theorem set3'_keeps {S:Nat->Prop} {w w':World} (h:Keeps S w w') {b:Nat} (hb:S b\/w.heap.size<=b) (v0 v1 v2:Value):Keeps S w (set3' w' b v0 v1 v2) :=
 ((h.setCell (p:=⟨b,0,none⟩) hb v0).setCell (p:=⟨b,1,none⟩) hb v1).setCell (p:=⟨b,2,none⟩) hb v2
theorem set3'_below {B b:Nat} {w0 w:World} (h:Below B w0 w) (hb:B<=b) (v0 v1 v2:Value):Below B w0 (set3' w b v0 v1 v2) :=
 ((h.setCell (p:=⟨b,0,none⟩) hb v0).setCell (p:=⟨b,1,none⟩) hb v1).setCell (p:=⟨b,2,none⟩) hb v2
theorem nextL_text {l:List UInt8} {k:Int} {t r:List UInt8} (h:nextL l=.tok k t r):t.length<=100:=by
 cases l with
 | nil=>unfold nextL at h;cases h
 | cons c l =>
  rw [nextL_cons] at h
  split at h
  ·simp only [Tk.tok.injEq] at h;obtain ⟨_,rfl,_⟩:=h;simp
  split at h
  ·simp only [Tk.tok.injEq] at h;obtain ⟨_,rfl,_⟩:=h;simp
  split at h
  ·split at h
   ·split at h
    ·rename_i h1
     simp only [Tk.tok.injEq] at h;obtain ⟨_,rfl,_⟩:=h;exact h1
    ·cases h
   ·cases h
  split at h
  ·split at h
   ·cases h
   ·simp only [Tk.tok.injEq] at h;obtain ⟨_,rfl,_⟩:=h;omega
  split at h
  ·cases h
  ·rename_i h1
   split at h
   ·split at h
    ·simp only [Tk.tok.injEq] at h;obtain ⟨_,rfl,_⟩:=h;omega
    ·cases h
   ·simp only [Tk.tok.injEq] at h;obtain ⟨_,rfl,_⟩:=h;omega
theorem Rd.next {l r:List UInt8} {x:Sexp} (h:Rd l x r):∃ k t q,nextL (skipL false l)=.tok k t q:=by
 cases h with
 | name h hs=>exact⟨_,_,_,h⟩
 | num h hs=>exact⟨_,_,_,h⟩
 | key h hs=>exact⟨_,_,_,h⟩
 | list f h h0 hc hx hn=>exact⟨_,_,_,h⟩
theorem shape_own {w:World} {base s n:Nat} {t:TypeId} {v:Value} {vals:List Value} (ho:w.ownsRow base t s v n vals):∃ A c,v=.slice A n c:=by
 rcases ho.2 with⟨h1,h2⟩ | ⟨g,cap,cur,h1,_⟩
 ·exact⟨none,0,by rw [h2];exact h1⟩
 ·exact⟨_,cap,h1⟩
end Dt
end Go.Proofs.YtpmdcckapddchaaGreatDoor
