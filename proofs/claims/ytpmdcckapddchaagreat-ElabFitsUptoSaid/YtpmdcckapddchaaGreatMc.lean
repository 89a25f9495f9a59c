import Derived.Test.YtpmdcckapddchaaGreatShort
import Derived.Test.YtpmdcckapddchaaGreatMb
import Derived.Deep.Cut
/- merged by wip/merge.py from: R3Head -/
set_option maxRecDepth 100000
set_option maxHeartbeats 51200000
namespace Go.Proofs.YtpmdcckapddchaaGreat
namespace Dt
open Go.RowKit
theorem rhead_any {w:World} {A:Option Addr} {c:Nat} {x:Sexp} (h:SexpR w [.int .i8 x.kind,.string x.text,.slice A x.l.length c] x) :
  Calls Tryz.prog 178 #[.agg #[.int .i8 x.kind,.string x.text,.slice A x.l.length c]] w fun e w'=>e=.returned (.string (headS x))/\Below w.heap.size w w':=by
 obtain ⟨A0,c0,e0,hl,hc,hcm,_,hlb,_⟩:=h.open';simp only [List.cons.injEq,Value.slice.injEq,and_true,true_and] at e0;obtain ⟨rfl,rfl⟩:=e0;have HB:=kp ((brq w).alloc nlq (.cells #[.int .i8 x.kind,.string x.text,.slice A x.l.length c] 30))
 have HS:=kp (show headS x=match x.l with
  | []=>{ data:=#[] }
  | y :: _=>if x.kind=3/\y.kind=0 then y.text else { data:=#[] } from rfl)
 have HL:=kp hl;generalize headS x=hd at *;generalize x.text=t at *;generalize x.l=l at *;clear h hl
 by_cases hk:x.kind=3
 ·rw [hk] at HS HB ⊢
  cases l with
  | nil =>
   replace HS:=HS.out;subst HS
   go_enter Tryz.func178,Tryz.ntmps178
   go_wp2_with fail
   go_ret;exact⟨rfl,HB.out⟩
  | cons y r =>
   obtain ⟨b,o,A',c',rfl,hbl,e0,e1,e2,hr⟩:=sexp_cells HL.out (k:=0) (y:=y) rfl;have HC:=kp (show ∀ j u,w.cell? ⟨b,o+0 * 3+j,none⟩=some u->∀ w',Below w.heap.size w w'->w'.cell? ⟨b,o+0 * 3+j,none⟩=some u from fun j u hu w' hb=>(hb.cell (p:=⟨b,o+0 * 3+j,none⟩) hbl).trans hu);have hn:(((y :: r).length:Int) == 0)=false:=by rw [beq_eq_false_iff_ne,List.length_cons];omega
   have hn2:(0:Int) < ((y :: r).length:Int):=by rw [List.length_cons];omega
   generalize (y :: r).length=n at *;clear hr HL e2
   by_cases h0:y.kind=0
   ·replace HS:hd=y.text:=HS.out.trans (if_pos ⟨rfl,h0⟩);subst HS;rw [h0] at e0
    go_enter Tryz.func178,Tryz.ntmps178
    go_upto_region 1 with fail
    have d0:=HC.out 0 _ e0 _ HB.out;have d1:=HC.out 1 _ e1 _ HB.out;simp only [Nat.add_zero,Nat.zero_mul] at d0;simp only [Nat.add_zero,Nat.zero_mul] at d1;obtain ⟨q0,q1,q2,_⟩:=box_cells w (.int .i8 3) (.string t) (.slice (some ⟨b,o,none⟩) n c) 30;generalize w.alloc (.cells #[.int .i8 3,.string t,.slice (some ⟨b,o,none⟩) n c] 30)=w1 at *;go_wp2_with fail
    go_ret;exact⟨rfl,HB.out⟩
   ·replace HS:hd={ data:=#[] }:=HS.out.trans (if_neg (fun h=>h0 h.2));subst HS;have h0':(y.kind == 0)=false:=beq_eq_false_iff_ne.2 h0;have h0'':(y.kind != 0)=true:=by rw [bne,h0'];rfl
    generalize y.kind=yk at *
    go_enter Tryz.func178,Tryz.ntmps178
    go_upto_region 1 with fail
    have d0:=HC.out 0 _ e0 _ HB.out;simp only [Nat.add_zero,Nat.zero_mul] at d0;obtain ⟨q0,q1,q2,_⟩:=box_cells w (.int .i8 3) (.string t) (.slice (some ⟨b,o,none⟩) n c) 30;generalize w.alloc (.cells #[.int .i8 3,.string t,.slice (some ⟨b,o,none⟩) n c] 30)=w1 at *;go_wp2_with fail
    go_ret;exact⟨rfl,HB.out⟩
 ·have hk':(x.kind == 3)=false:=beq_eq_false_iff_ne.2 hk;have hk'':(x.kind != 3)=true:=by rw [bne,hk'];rfl
  replace HS:hd={ data:=#[] }:=by
   rw [HS.out]
   cases l with
   | nil=>rfl
   | cons y r=>exact if_neg (fun h=>hk h.1)
  subst HS;generalize x.kind=k at *;generalize l.length=n at *
  go_enter Tryz.func178,Tryz.ntmps178
  go_wp2_with fail
  go_ret;exact⟨rfl,HB.out⟩
end Dt
end Go.Proofs.YtpmdcckapddchaaGreat
