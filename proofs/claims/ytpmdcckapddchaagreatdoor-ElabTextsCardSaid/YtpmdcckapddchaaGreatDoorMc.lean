import Derived.Test.YtpmdcckapddchaaGreatDoorShort
import Derived.Test.YtpmdcckapddchaaGreatDoorMb
import Derived.Deep.Cut
/- merged by wip/merge.py from: SexpHead ReadP LexRQ -/
set_option maxRecDepth 100000
set_option maxHeartbeats 51200000
namespace Go.Proofs.YtpmdcckapddchaaGreatDoor
namespace Dt
open Go.RowKit
def headS (x:Sexp):ByteArray:=match x.l with
 | []=>{ data:=#[] }
 | y :: _=>if x.kind=3/\y.kind=0 then y.text else { data:=#[] }
theorem head_any {w:World} {A:Option Addr} {c:Nat} {x:Sexp} (h:SexpR w [.int .i8 x.kind,.string x.text,.slice A x.l.length c] x) :
  Calls Tryz.prog 138 #[.agg #[.int .i8 x.kind,.string x.text,.slice A x.l.length c]] w fun e w'=>e=.returned (.string (headS x))/\Below w.heap.size w w':=by
 obtain ⟨A0,c0,e0,hl,hc,hcm,_,hlb,_⟩:=h.open';simp only [List.cons.injEq,Value.slice.injEq,and_true,true_and] at e0;obtain ⟨rfl,rfl⟩:=e0;have HB:=kp ((brq w).alloc nlq (.cells #[.int .i8 x.kind,.string x.text,.slice A x.l.length c] 40))
 have HS:=kp (show headS x=match x.l with
  | []=>{ data:=#[] }
  | y :: _=>if x.kind=3/\y.kind=0 then y.text else { data:=#[] } from rfl)
 have HL:=kp hl;generalize headS x=hd at *;generalize x.text=t at *;generalize x.l=l at *;clear h hl
 by_cases hk:x.kind=3
 ·rw [hk] at HS HB ⊢
  cases l with
  | nil =>
   replace HS:=HS.out;subst HS
   go_enter Tryz.func138,Tryz.ntmps138
   go_wp2_with fail
   go_ret;exact⟨rfl,HB.out⟩
  | cons y r =>
   obtain ⟨b,o,A',c',rfl,hbl,e0,e1,e2,hr⟩:=sexp_cells HL.out (k:=0) (y:=y) rfl;have HC:=kp (show ∀ j u,w.cell? ⟨b,o+0 * 3+j,none⟩=some u->∀ w',Below w.heap.size w w'->w'.cell? ⟨b,o+0 * 3+j,none⟩=some u from fun j u hu w' hb=>(hb.cell (p:=⟨b,o+0 * 3+j,none⟩) hbl).trans hu);have hn:(((y :: r).length:Int) == 0)=false:=by rw [beq_eq_false_iff_ne,List.length_cons];omega
   have hn2:(0:Int) < ((y :: r).length:Int):=by rw [List.length_cons];omega
   generalize (y :: r).length=n at *;clear hr HL e2
   by_cases h0:y.kind=0
   ·replace HS:hd=y.text:=HS.out.trans (if_pos ⟨rfl,h0⟩);subst HS;rw [h0] at e0
    go_enter Tryz.func138,Tryz.ntmps138
    go_upto_region 1 with fail
    have d0:=HC.out 0 _ e0 _ HB.out;have d1:=HC.out 1 _ e1 _ HB.out;simp only [Nat.add_zero,Nat.zero_mul] at d0;simp only [Nat.add_zero,Nat.zero_mul] at d1;obtain ⟨q0,q1,q2,_⟩:=box_cells w (.int .i8 3) (.string t) (.slice (some ⟨b,o,none⟩) n c) 40;generalize w.alloc (.cells #[.int .i8 3,.string t,.slice (some ⟨b,o,none⟩) n c] 40)=w1 at *;go_wp2_with fail
    go_ret;exact⟨rfl,HB.out⟩
   ·replace HS:hd={ data:=#[] }:=HS.out.trans (if_neg (fun h=>h0 h.2));subst HS;have h0':(y.kind == 0)=false:=beq_eq_false_iff_ne.2 h0;have h0'':(y.kind != 0)=true:=by rw [bne,h0'];rfl
    generalize y.kind=yk at *
    go_enter Tryz.func138,Tryz.ntmps138
    go_upto_region 1 with fail
    have d0:=HC.out 0 _ e0 _ HB.out;simp only [Nat.add_zero,Nat.zero_mul] at d0;obtain ⟨q0,q1,q2,_⟩:=box_cells w (.int .i8 3) (.string t) (.slice (some ⟨b,o,none⟩) n c) 40;generalize w.alloc (.cells #[.int .i8 3,.string t,.slice (some ⟨b,o,none⟩) n c] 40)=w1 at *;go_wp2_with fail
    go_ret;exact⟨rfl,HB.out⟩
 ·have hk':(x.kind == 3)=false:=beq_eq_false_iff_ne.2 hk;have hk'':(x.kind != 3)=true:=by rw [bne,hk'];rfl
  replace HS:hd={ data:=#[] }:=by
   rw [HS.out]
   cases l with
   | nil=>rfl
   | cons y r=>exact if_neg (fun h=>hk h.1)
  subst HS;generalize x.kind=k at *;generalize l.length=n at *
  go_enter Tryz.func138,Tryz.ntmps138
  go_wp2_with fail
  go_ret;exact⟨rfl,HB.out⟩
abbrev SxB:=Sexp × Option Addr × Nat
def sxV (y:SxB):List Value:=[.int .i8 y.1.kind,.string y.1.text,.slice y.2.1 y.1.l.length y.2.2]
def sxOk (w:World) (y:SxB):Prop:=SexpR w (sxV y) y.1
theorem sxV_len (y:SxB):(sxV y).length=3:=rfl
theorem Rd.shorter {l r:List UInt8} {x:Sexp} (h:Rd l x r):r.length < l.length:=by
 have hsk:∀ {l:List UInt8} {k:Int} {t r:List UInt8},nextL (skipL false l)=.tok k t r->r.length < l.length:=fun {l k t r} h=>by
  have h1:=(nextL_suffix h).2;have h2:=(skipL_suffix false l).length_le
  omega
 induction h with
 | name h hs=>exact hsk h
 | num h hs=>exact hsk h
 | key h hs=>exact hsk h
 | @list l r rest xs f h h0 hc hx hn ih =>
  have hstep:∀ k,k<=xs.length->(f k).length<=r.length:=by
   intro k
   induction k with
   | zero=>intro _;rw [h0];exact nlq
   | succ k ihk=>intro hk;have h1:=ih k xs[k] (gqe (by omega));have h2:=ihk (by omega);omega
  have h1:=hsk h;have h2:=hsk hn;have h3:=hstep xs.length nlq
  omega
def ReadPost (w:World) (x:Sexp) (b:Nat) (e:Ending) (w':World):Prop :=
 ∃ A c,e=.returned (.tuple #[.agg #[.int .i8 x.kind,.string x.text,.slice A x.l.length c],.int .i64 b,.int .i64 0])/\InOk sxOk w.heap.size w'.heap.size w' (x,A,c)/\Below w.heap.size w w'
def set3' (w:World) (b:Nat) (v0 v1 v2:Value):World:=((w.setCell ⟨b,0,none⟩ v0).setCell ⟨b,1,none⟩ v1).setCell ⟨b,2,none⟩ v2
theorem set3'_at {w:World} {b:Nat} {a0 a1 a2:Value} {t:TypeId} (h:w.heap[b]?=some (.cells #[a0,a1,a2] t (0,0))) (v0 v1 v2:Value):(set3' w b v0 v1 v2).heap[b]?=some (.cells #[v0,v1,v2] t (0,0)):=by
 simp [set3',World.setCell,Array.getElem?_modify,h]
theorem set3'_keeps {S:Nat->Prop} {w w':World} (h:Keeps S w w') {b:Nat} (hb:S b\/w.heap.size<=b) (v0 v1 v2:Value):Keeps S w (set3' w' b v0 v1 v2) :=
 ((h.setCell (p:=⟨b,0,none⟩) hb v0).setCell (p:=⟨b,1,none⟩) hb v1).setCell (p:=⟨b,2,none⟩) hb v2
theorem set3'_below {B b:Nat} {w0 w:World} (h:Below B w0 w) (hb:B<=b) (v0 v1 v2:Value):Below B w0 (set3' w b v0 v1 v2) :=
 ((h.setCell (p:=⟨b,0,none⟩) hb v0).setCell (p:=⟨b,1,none⟩) hb v1).setCell (p:=⟨b,2,none⟩) hb v2
theorem nextL_text {l:List UInt8} {k:Int} {t r:List UInt8} (h:nextL l=.tok k t r):t.length<=100:=by
 cases l with
 | nil=>unfold nextL at h;cases h
 | cons c l =>
  rw [nextL_cons] at h
  split at h
  ·simp only [Tk.tok.injEq] at h;obtain ⟨_,rfl,_⟩:=h;simp
  split at h
  ·simp only [Tk.tok.injEq] at h;obtain ⟨_,rfl,_⟩:=h;simp
  split at h
  ·split at h
   ·split at h
    ·rename_i h1
     simp only [Tk.tok.injEq] at h;obtain ⟨_,rfl,_⟩:=h;exact h1
    ·cases h
   ·cases h
  split at h
  ·split at h
   ·cases h
   ·simp only [Tk.tok.injEq] at h;obtain ⟨_,rfl,_⟩:=h;omega
  split at h
  ·cases h
  ·rename_i h1
   split at h
   ·split at h
    ·simp only [Tk.tok.injEq] at h;obtain ⟨_,rfl,_⟩:=h;omega
    ·cases h
   ·simp only [Tk.tok.injEq] at h;obtain ⟨_,rfl,_⟩:=h;omega
theorem Rd.next {l r:List UInt8} {x:Sexp} (h:Rd l x r):∃ k t q,nextL (skipL false l)=.tok k t q:=by
 cases h with
 | name h hs=>exact⟨_,_,_,h⟩
 | num h hs=>exact⟨_,_,_,h⟩
 | key h hs=>exact⟨_,_,_,h⟩
 | list f h h0 hc hx hn=>exact⟨_,_,_,h⟩
theorem shape_own {w:World} {base s n:Nat} {t:TypeId} {v:Value} {vals:List Value} (ho:w.ownsRow base t s v n vals):∃ A c,v=.slice A n c:=by
 rcases ho.2 with⟨h1,h2⟩ | ⟨g,cap,cur,h1,_⟩
 ·exact⟨none,0,by rw [h2];exact h1⟩
 ·exact⟨_,cap,h1⟩
end Dt
namespace Lx
open Go.RowKit
theorem rdigit_any (c:Int) (w:World) :
  Calls Tryz.prog 170 #[.int .u8 c] w fun e w'=>e=.returned (.bool (digitI c))/\w=w':=by
 by_cases h2:48<=c
 ·by_cases h3:c<=57
  ·have HR:=kp (show digitI c=true by simp [digitI];omega)
   go_enter Tryz.func170,Tryz.ntmps170
   go_wp2_with fail
   go_ret;exact⟨ret_bool HR.out.symm,rfl⟩
  ·have h3':=dfq h3;have HR:=kp (show digitI c=false by simp [digitI];omega)
   go_enter Tryz.func170,Tryz.ntmps170
   go_wp2_with fail
   go_ret;exact⟨ret_bool HR.out.symm,rfl⟩
 ·have h2':=dfq h2;have HR:=kp (show digitI c=false by simp [digitI];omega)
  go_enter Tryz.func170,Tryz.ntmps170
  go_wp2_with fail
  go_ret;exact⟨ret_bool HR.out.symm,rfl⟩
def signsB (l:List UInt8):Bool:=(l.all fun c=>signI c.toNat) && !l.isEmpty && !digitI (l.getD 0 0).toNat
theorem plain_split (l:List UInt8):plainB l=(mayB l && signsB l && !resB l):=by
 unfold plainB signsB mayB
 have himp:(l.all fun c=>signI c.toNat)=true->(l.all fun c=>insideI c.toNat)=true:=fun h=>by
  rw [List.all_eq_true] at h ⊢;intro c hc;have:=h c hc;simp [signI] at this;simp [insideI]
  omega
 cases hs:(l.all fun c=>signI c.toNat) with
 | false=>simp
 | true=>rw [himp hs];cases l.isEmpty <;> cases decide (l.length<=100) <;> cases digitI (l.getD 0 0).toNat <;> cases resB l <;> rfl
theorem rsigns_any (s:ByteArray) (w:World) (hs:(s.size:Int)<=9223372036854775807) :
  Calls Tryz.prog 132 #[.string s] w fun e w'=>e=.returned (.bool (signsB (bs s)))/\w=w':=by
 have HM:=kp (show signsB (bs s)=(((bs s).all fun c=>signI c.toNat) && !(bs s).isEmpty && !digitI ((bs s).getD 0 0).toNat) from rfl)
 go_enter Tryz.func132,Tryz.ntmps132
 go_wp2_with fail
 go_loop [3] (fun v=>∃ k:Nat,k<=s.size/\v=.int .i64 k/\((bs s).take k).all (fun c=>signI c.toNat)=true) (fun v=>s.size - (intOf v).toNat)
 case atStart=>exact⟨0,Nat.zero_le _,rfl,rfl⟩
 case round =>
  obtain ⟨k,hk,rfl,hall⟩:=hrel;have HA:=kp hall;clear hall
  by_cases hlt:k < s.size
  ·have hlt2:(k:Int) < (s.size:Int):=by omega
   have HC:=kp (rsign_any (s[k].toNat:Int) w (by omega) (by have:=s[k].toNat_lt;omega));have HT:=kp (bs_next hlt);have HMm:=kp (bs_mem hlt)
   cases hb:signI (s[k].toNat:Int) with
   | true =>
    have HB:=kp hb;rw [hb] at HC;clear hb;go_wp2_with fail
    refine HC.out.mono ?_;rintro e w' ⟨rfl,rfl⟩;go_wp2_with fail
    go_round
    case rel=>exact⟨k+1,by omega,by go_num,by rw [HT.out,List.all_append,HA.out];simp [HB.out]⟩
    case measure=>simp [intOf];omega
   | false =>
    have HB:=kp (show signsB (bs s)=false from by rw [HM.out,Bool.and_assoc,Bool.and_eq_false_iff];left;rw [Bool.eq_false_iff];intro h;rw [List.all_eq_true] at h;have:=h _ HMm.out;rw [hb] at this;cases this);rw [hb] at HC;clear hb;go_wp2_with fail
    refine HC.out.mono ?_;rintro e w' ⟨rfl,rfl⟩;go_wp2_with fail
    go_ret;exact⟨ret_bool HB.out.symm,rfl⟩
  ·obtain rfl:k=s.size:=by omega
   have HB:=kp (show signsB (bs s)=(!(bs s).isEmpty && !digitI ((bs s).getD 0 0).toNat) from by have h:=HA.out;rw [List.take_of_length_le (by rw [bs_length];omega)] at h;rw [HM.out,h,Bool.true_and])
   by_cases h0:0 < s.size
   ·have h0':(0:Int) < (s.size:Int):=by omega
    have hne:s.toList.isEmpty=false:=by rw [bs_toList,List.isEmpty_eq_false_iff,← List.length_pos_iff,bs_length];exact h0
    have e0:(bs s).getD 0 0=s[0]:=by rw [List.getD_eq_getElem?_getD,bs_at h0];rfl
    have HD:=kp (rdigit_any (s[0].toNat:Int) w);replace HB:=kp (show signsB (bs s)=!digitI (s[0].toNat:Int) by rw [HB.out,← bs_toList,hne,bs_toList,e0];rfl);clear e0;go_wp2_with fail
    refine HD.out.mono ?_;rintro e w' ⟨rfl,rfl⟩;go_wp2_with fail
    go_ret;exact⟨ret_bool HB.out.symm,rfl⟩
   ·have hb:bs s=[]:=List.length_eq_zero_iff.1 (by rw [bs_length];omega);have hne:s.toList=[]:=by rw [bs_toList];exact hb
    replace HB:=kp (show signsB (bs s)=false by rw [HB.out,hb];rfl);clear hb h0 hlt;go_wp2_with fail
    go_ret;exact⟨ret_bool HB.out.symm,rfl⟩
theorem rplain_any (s:ByteArray) (w:World) (hs:(s.size:Int)<=9223372036854775807) :
  Calls Tryz.prog 87 #[.string s] w fun e w'=>e=.returned (.bool (plainB (bs s)))/\w=w':=by
 have H1:=kp (rmay_any s w hs);have H2:=kp (rsigns_any s w hs);have H3:=kp (rreserved_any s w);have HM:=kp (plain_split (bs s));generalize plainB (bs s)=p at *;generalize mayB (bs s)=a at *;generalize signsB (bs s)=b at *;generalize resB (bs s)=c at *
 cases a with
 | false =>
  go_enter Tryz.func87,Tryz.ntmps87
  go_wp2_with fail
  refine(H1.out).mono ?_;rintro e w' ⟨rfl,rfl⟩;go_wp2_with fail
  go_ret;exact⟨ret_bool (by rw [HM.out];rfl),rfl⟩
 | true =>
  cases b with
  | false =>
   go_enter Tryz.func87,Tryz.ntmps87
   go_wp2_with fail
   refine(H1.out).mono ?_;rintro e w' ⟨rfl,rfl⟩;go_wp2_with fail
   refine(H2.out).mono ?_;rintro e w' ⟨rfl,rfl⟩;go_wp2_with fail
   go_ret;exact⟨ret_bool (by rw [HM.out];rfl),rfl⟩
  | true =>
   go_enter Tryz.func87,Tryz.ntmps87
   go_wp2_with fail
   refine(H1.out).mono ?_;rintro e w' ⟨rfl,rfl⟩;go_wp2_with fail
   refine(H2.out).mono ?_;rintro e w' ⟨rfl,rfl⟩;go_wp2_with fail
   refine(H3.out).mono ?_;rintro e w' ⟨rfl,rfl⟩;go_wp2_with fail
   go_ret;exact⟨ret_bool (by rw [HM.out];rfl),rfl⟩
theorem rquote_any (s:ByteArray) (w:World) (hs:(s.size:Int)<=140737488351232) :
  Calls Tryz.prog 51 #[.string s] w fun e w'=>e=.returned (.string (quoteS s))/\w=w':=by
 have HP:=kp (rplain_any s w (by omega));have HR:=kp (rreserved_any s w);have HM:=kp (show quoteS s=if plainB (bs s) || resB (bs s) then s else { data:=#[124] } ++ s ++ { data:=#[124] } from rfl);generalize plainB (bs s)=p at *;generalize resB (bs s)=r at *
 cases p with
 | true =>
  go_enter Tryz.func51,Tryz.ntmps51
  go_wp2_with fail
  refine(HP.out).mono ?_;rintro e w' ⟨rfl,rfl⟩;go_wp2_with fail
  go_ret;exact⟨by rw [HM.out];rfl,rfl⟩
 | false =>
  cases r with
  | true =>
   go_enter Tryz.func51,Tryz.ntmps51
   go_wp2_with fail
   refine(HP.out).mono ?_;rintro e w' ⟨rfl,rfl⟩;go_wp2_with fail
   refine(HR.out).mono ?_;rintro e w' ⟨rfl,rfl⟩;go_wp2_with fail
   go_ret;exact⟨by rw [HM.out];rfl,rfl⟩
  | false =>
   go_enter Tryz.func51,Tryz.ntmps51
   go_wp2_with fail
   refine(HP.out).mono ?_;rintro e w' ⟨rfl,rfl⟩;go_wp2_with fail
   refine(HR.out).mono ?_;rintro e w' ⟨rfl,rfl⟩;go_wp2_with fail
   go_ret;exact⟨by rw [HM.out];rfl,rfl⟩
end Lx
end Go.Proofs.YtpmdcckapddchaaGreatDoor
