import Derived.Test.YtpmdcckapddchaaGreatDoorShort
import Derived.Test.YtpmdcckapddchaaGreatDoorMb
import Derived.Test.YtpmdcckapddchaaGreatDoorMh
/- merged by wip/merge.py from: Great4 -/
set_option maxRecDepth 100000
set_option maxHeartbeats 51200000
namespace Go.Proofs.YtpmdcckapddchaaGreatDoor
namespace Gr
open Go.RowKit Dt Sg
def SomeInt (e:Ending):Prop:=∃ r:Int,I64 r/\e=.returned (.int .i64 r)
theorem someInt {r:Int} (h:I64 r):SomeInt (.returned (.int .i64 r)):=⟨r,h,rfl⟩
theorem size_any:∀ (n:Nat) (x:Sexp),SizeOf.sizeOf x < n->∀ (w:World) (A:Option Addr) (c:Nat) (most:Int),SexpR w [.int .i8 x.kind,.string x.text,.slice A x.l.length c] x ->
  Calls Tryz.prog 17 #[.agg #[.int .i8 x.kind,.string x.text,.slice A x.l.length c],.int .i64 most] w fun e w'=>SomeInt e/\Below w.heap.size w w':=by
 intro n
 induction n with
 | zero=>intro x hx;omega
 | succ n ih =>
  intro x hx w A c most hr;have IH:=kp ih;obtain ⟨A0,c0,e0,hl,hc,hcm,ht,hlb,_⟩:=hr.open';simp only [List.cons.injEq,Value.slice.injEq,and_true,true_and] at e0;obtain ⟨rfl,rfl⟩:=e0;have HL:=kp hl;have HX:=kp hx;have HM:=kp (fun y (hy:y ∈ x.l)=>Sexp.mem_lt hy);obtain ⟨g0,g1,g2⟩:=sig_cells w (.int .i8 x.kind) (.string x.text) (.slice A x.l.length c) 40;have B0:=kp ((brq w).alloc nlq (.cells #[.int .i8 x.kind,.string x.text,.slice A x.l.length c] 40));have hz:w.heap.size < (w.alloc (.cells #[.int .i8 x.kind,.string x.text,.slice A x.l.length c] 40)).heap.size:=by simp
  have hlb2:(x.l.length:Int)<=140737488351232:=by omega
  generalize x.l=l at *;generalize x.text=t at *;generalize x.kind=kd at *;clear hl hr hx ih hlb;have HC:=kp (fun W (hW:Below (w.alloc (.cells #[.int .i8 kd,.string t,.slice A l.length c] 40)).heap.size (w.alloc (.cells #[.int .i8 kd,.string t,.slice A l.length c] 40)) W)=>((bcell hW).1 w.heap.size 2 hz).trans g2);have HT:=kp (show I64 (1+(t.size:Int)) from⟨by omega,by omega⟩);have H5:=kp (show I64 5001 from⟨by omega,by omega⟩);have H6:=kp (show I64 (1+min (t.size:Int) 5000) from⟨by omega,by omega⟩);clear g0 g2 hz;have HZ:0 < 1:=by omega
  by_cases ht5:(5000:Int) < (t.size:Int)
  all_goals
   go_enter Tryz.func17,Tryz.ntmps17
   go_wp2_with fail
   generalize w.alloc (.cells #[.int .i8 kd,.string t,.slice A l.length c] 40)=w0 at *
   go_loopw [5,6] (fun v i wr=>∃ (k:Nat) (z:Int),k<=l.length/\i=.int .i64 k/\v=.int .i64 z/\I64 z/\Below w0.heap.size w0 wr) (fun _ i _=>l.length - (intOf i).toNat)
   case atStart=>first | exact⟨0,_,by omega,rfl,rfl,HT.out,Below.refl _ _⟩ | exact⟨0,_,by omega,rfl,rfl,H5.out,Below.refl _ _⟩ | exact⟨0,_,by omega,rfl,rfl,H6.out,Below.refl _ _⟩
   case round =>
    obtain ⟨k,z,hk,rfl,rfl,hzi,hb⟩:=hrel;have HZi:=kp hzi;have HB:=kp hb;have q2:=HC.out wr hb;have HBw:=kp (B0.out.trans (hb.mono B0.out.size));clear hzi hb
    by_cases hlt:k < l.length
    ·have hlt2:(k:Int) < (l.length:Int):=by omega
     by_cases hzm:z < most
     ·have hzm':=decide_eq_true hzm;have hy:=gqe hlt;have hym:=List.getElem_mem hlt;generalize l[k]=y at hy hym;obtain ⟨b,o,A',c',rfl,hbl,e0,e1,e2,hr⟩:=sexp_cells (HL.out.on SexpR.lasts HBw.out) hy;have HY:=kp (fun W m (hW:Below wr.heap.size wr W)=>IH.out y (by have h1:=HM.out y hym;have h2:=HX.out;omega) W A' c' m (SexpR.lasts _ _ _ _ hW hr));clear hr hy hym;go_wp2_with fail
      refine(HY.out _ _ (Below.refl _ _)).mono ?_;rintro e w2 ⟨⟨r,hri,rfl⟩,hb2⟩;have HB2:=kp (HB.out.trans (hb2.mono HB.out.size));have HI2:=kp (I64_wrap (z+r));clear hb2;go_wp2_with fail
      go_roundw
      case rel=>exact⟨k+1,_,by omega,by go_num,rfl,HI2.out,HB2.out⟩
      case measure=>simp [intOf];omega
     ·have hzm':=dfq hzm;have HS:=kp (someInt HZi.out);go_wp2_with fail
      go_ret;exact⟨HS.out,HBw.out⟩
    ·have hge:decide ((k:Int) < (l.length:Int))=false:=dfq (by omega);have HS:=kp (someInt HZi.out);go_wp2_with fail
     go_ret;exact⟨HS.out,HBw.out⟩
def GreatPost (P:Prop) (e:Ending):Prop:=∃ b:Bool,e=.returned (.bool b)/\(b=false->P)
theorem great_yes {P:Prop}:GreatPost P (.returned (.bool true)):=⟨true,rfl,fun h=>by cases h⟩
theorem great_no {P:Prop} (b:Bool) (h:P):GreatPost P (.returned (.bool b)):=⟨b,rfl,fun _=>h⟩
theorem macro_cells {w W:World} {A:Option Addr} {l:List Macro} (h:Lies 6 MacroR w A l) (hb:Below w.heap.size w W) {k:Nat} {m:Macro} (hm:l[k]?=some m) :
  ∃ b o Ap cp Ab cb,A=some ⟨b,o,none⟩/\W.cell? ⟨b,o+k * 6+1,none⟩=some (.slice Ap m.params.length cp)/\W.cell? ⟨b,o+k * 6+3,none⟩=some (.int .i8 m.body.kind)/\W.cell? ⟨b,o+k * 6+3+1,none⟩=some (.string m.body.text)/\W.cell? ⟨b,o+k * 6+3+2,none⟩=some (.slice Ab m.body.l.length cb) /\
   SexpR W [.int .i8 m.body.kind,.string m.body.text,.slice Ab m.body.l.length cb] m.body/\m.params.length<=maxLen:=by
 obtain ⟨b,o,vs,rfl,hbl,_,hcell,Ap,cp,bv,rfl,hsx,_,hpc,hcm,_⟩:=h.at' hm;obtain ⟨Ab,cb,rfl,_⟩:=hsx.open';have e:=fun j u (hu:_)=>((bcell hb).1 b (o+k * 6+j) hbl).trans (hcell j u hu);exact⟨b,o,Ap,cp,Ab,cb,rfl,e 1 _ rfl,e 3 _ rfl,e 4 _ rfl,e 5 _ rfl,SexpR.lasts _ _ _ _ hb hsx,by omega⟩
def Small (g:Sig):Prop:=g.sorts.length<=20/\g.funs.length<=40/\g.macros.length<=40
theorem great4_any {w:World} {A1 A2 A3:Option Addr} {c1 c2 c3:Nat} {g:Sig} (h:SigAt w A1 c1 A2 c2 A3 c3 g) :
  Calls Tryz.prog 6 #[.agg #[.slice A1 g.sorts.length c1,.slice A2 g.funs.length c2,.slice A3 g.macros.length c3]] w fun e w'=>GreatPost (Small g) e/\Below w.heap.size w w':=by
 have HMc:=kp (fun W (hW:Below w.heap.size w W) k m (hm:g.macros[k]?=some m)=>macro_cells h.macros hW hm);obtain ⟨g0,g1,g2⟩:=sig_cells w (.slice A1 g.sorts.length c1) (.slice A2 g.funs.length c2) (.slice A3 g.macros.length c3) 26;have B0:=kp ((brq w).alloc nlq (.cells #[.slice A1 g.sorts.length c1,.slice A2 g.funs.length c2,.slice A3 g.macros.length c3] 26));have hz:w.heap.size < (w.alloc (.cells #[.slice A1 g.sorts.length c1,.slice A2 g.funs.length c2,.slice A3 g.macros.length c3] 26)).heap.size:=by simp
 have HSm:=kp (show(g.sorts.length<=20/\g.funs.length<=40/\g.macros.length<=40)->Small g from id);have HY:=kp (great_yes (P:=Small g));have HN:=kp (fun b (h:Small g)=>great_no (P:=Small g) b h);clear h;generalize hn1:g.sorts.length=n1 at *;generalize hn2:g.funs.length=n2 at *;generalize hn3:g.macros.length=n3 at *
 by_cases h1:(20:Int) < (n1:Int)
 ·have h1':=decide_eq_true h1
  go_enter Tryz.func6,Tryz.ntmps6
  go_wp2_with fail
  go_ret;exact⟨HY.out,B0.out⟩
 ·have h1':=dfq h1
  by_cases h2:(40:Int) < (n2:Int)
  ·have h2':=decide_eq_true h2
   go_enter Tryz.func6,Tryz.ntmps6
   go_wp2_with fail
   go_ret;exact⟨HY.out,B0.out⟩
  ·have h2':=dfq h2
   by_cases h3:(40:Int) < (n3:Int)
   ·have h3':=decide_eq_true h3
    go_enter Tryz.func6,Tryz.ntmps6
    go_wp2_with fail
    go_ret;exact⟨HY.out,B0.out⟩
   ·have h3':=dfq h3;have HS:=kp (HSm.out ⟨by omega,by omega,by omega⟩)
    go_enter Tryz.func6,Tryz.ntmps6
    go_wp2_with fail
    generalize w.alloc (.cells #[.slice A1 n1 c1,.slice A2 n2 c2,.slice A3 n3 c3] 26)=w1 at *;have HC:=kp (fun W (hW:Below w1.heap.size w1 W)=>((bcell hW).1 w.heap.size 2 hz).trans g2);clear g0 g1 g2 hz
    go_loopw [3,4] (fun v i wr=>∃ (k:Nat) (z:Int),k<=n3/\i=.int .i64 k/\v=.int .i64 z/\I64 z/\Below w1.heap.size w1 wr) (fun _ i _=>n3 - (intOf i).toNat)
    case atStart=>exact⟨0,0,by omega,rfl,rfl,⟨by omega,by omega⟩,Below.refl _ _⟩
    case round =>
     obtain ⟨k,z,hk,rfl,rfl,hzi,hb⟩:=hrel;have HZi:=kp hzi;have HB:=kp hb;have q2:=HC.out wr hb;have HBw:=kp (B0.out.trans (hb.mono B0.out.size));clear hzi hb
     by_cases hlt:k < n3
     ·have hlt2:(k:Int) < (n3:Int):=by omega
      obtain ⟨m,hm⟩:∃ m,g.macros[k]?=some m:=⟨_,gqe (by omega)⟩;obtain ⟨b,o,Ap,cp,Ab,cb,rfl,m1,m3,m4,m5,hsx,hpl⟩:=HMc.out wr HBw.out k m hm;have HSz:=kp (size_any _ m.body (Nat.lt_succ_self _) wr Ab cb 4000 hsx);have HMd:=kp (fun W hW=>HMc.out W hW k m hm);have hpl2:(m.params.length:Int)<=9223372036854775807:=by unfold maxLen at hpl;omega
      clear hm hsx hpl;go_wp2_with fail
      refine HSz.out.mono ?_;rintro e w2 ⟨⟨r,hri,rfl⟩,hb2⟩;have HB2:=kp (HB.out.trans (hb2.mono HB.out.size));have HBw2:=kp (HBw.out.trans (hb2.mono HBw.out.size));have HI2:=kp (I64_wrap (z+r));obtain ⟨b',o',Ap',cp',_,_,hA,m1',_,_,_,_,_⟩:=HMd.out w2 HBw2.out;have hA2:b'=b/\o'=o:=by simp at hA;exact⟨hA.1.symm,hA.2.symm⟩
      obtain ⟨rfl,rfl⟩:=hA2;have q3:=HC.out w2 HB2.out;clear hb2 m1 m3 m4 m5 hA q2 hri
      by_cases hp:(20:Int) < (m.params.length:Int)
      ·have hp':=decide_eq_true hp;go_wp2_with fail
       go_ret;exact⟨HY.out,HBw2.out⟩
      ·have hp':=dfq hp;go_wp2_with fail
       go_roundw
       case rel=>exact⟨k+1,_,by omega,by go_num,rfl,HI2.out,HB2.out⟩
       case measure=>simp [intOf];omega
     ·obtain rfl:k=n3:=by omega
      have HR:=kp (HN.out (decide (6000 < z)) HS.out);go_wp2_with fail
      all_goals
       go_ret;exact⟨HN.out _ HS.out,HBw.out⟩
end Gr
end Go.Proofs.YtpmdcckapddchaaGreatDoor
