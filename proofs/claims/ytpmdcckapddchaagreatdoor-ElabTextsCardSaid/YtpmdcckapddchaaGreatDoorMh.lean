import Derived.Test.YtpmdcckapddchaaGreatDoorShort
import Derived.Test.YtpmdcckapddchaaGreatDoorMf
import Derived.Deep.RegionWith
import Derived.Test.YtpmdcckapddchaaGreatDoorMd
import Derived.Test.YtpmdcckapddchaaGreatDoorMb
import Derived.Test.YtpmdcckapddchaaGreatDoorMc
import Derived.Deep.Cut
import Derived.Test.YtpmdcckapddchaaGreatDoorMe
import Derived.Lib.ItoaLen
/- merged by wip/merge.py from: SigFree SigMac SigCheckS ElPlain ElNeed ElNum SigChkA SigMacP ElText ElTreeP -/
set_option maxRecDepth 100000
set_option maxHeartbeats 51200000
namespace Go.Proofs.YtpmdcckapddchaaGreatDoor
namespace Sg
open Go.RowKit Dt
def freeE (g:Sig) (s:ByteArray) (sort:Bool):Int :=
 if !usableB (Lx.bs s) then 31 else if sort then(if hasB (allSorts g.sorts) s then 32 else 0) else if hasB (g.funs.map Fun4.name) s || hasB (g.macros.map Macro.name) s || coreB (Lx.bs s) then 32 else 0
theorem fun_name (w:World) (vs:List Value) (x:Fun4) (h:FunR w vs x):∃ tl,vs=.string x.name :: tl:=⟨_,h.1⟩
theorem macro_name (w:World) (vs:List Value) (x:Macro) (h:MacroR w vs x):∃ tl,vs=.string x.name :: tl:=by obtain ⟨A,c,bv,h1,_⟩:=h;exact⟨_,h1⟩
theorem three_cells {w w':World} {b:Nat} {u0 u1 u2:Value} (hb:Below w.heap.size w w') (hlt:b < w.heap.size) (p0:w.cell? ⟨b,0,none⟩=some u0) (p1:w.cell? ⟨b,1,none⟩=some u1) (p2:w.cell? ⟨b,2,none⟩=some u2) :
  w'.cell? ⟨b,0,none⟩=some u0/\w'.cell? ⟨b,1,none⟩=some u1/\w'.cell? ⟨b,2,none⟩=some u2 :=
 ⟨((bcell hb).1 b 0 hlt).trans p0,((bcell hb).1 b 1 hlt).trans p1,((bcell hb).1 b 2 hlt).trans p2⟩
theorem ret_int {a b:Int} (h:a=b):Ending.returned (.int .i64 a)=.returned (.int .i64 b):=by rw [h]
theorem rfree_any {w:World} {A1 A2 A3:Option Addr} {c1 c2 c3:Nat} {g:Sig} (h:SigAt w A1 c1 A2 c2 A3 c3 g) (h1:(g.sorts.length:Int)<=140737488351232) (h2:(g.funs.length:Int)<=140737488351232) (h3:(g.macros.length:Int)<=140737488351232) (s:ByteArray) (hs:(s.size:Int)<=140737488351232) (sort:Bool) :
  Calls Tryz.prog 79 #[.agg #[.slice A1 g.sorts.length c1,.slice A2 g.funs.length c2,.slice A3 g.macros.length c3],.string s,.bool sort] w fun e w'=>e=.returned (.int .i64 (freeE g s sort))/\Below w.heap.size w w':=by
 have HM:=kp (fun W=>Lx.rmay_any s W (by omega));have HR:=kp (fun W=>Lx.rreserved_any s W);have HC:=kp (fun W=>rcore_any s W);have B1:=kp ((brq w).alloc nlq (.cells #[.slice A1 g.sorts.length c1,.slice A2 g.funs.length c2,.slice A3 g.macros.length c3] 26));have HF1:=kp (fun W (hW:Below w.heap.size w W)=>rsortat_any (A2:=A2) (A3:=A3) (n2:=g.funs.length) (c2:=c2) (n3:=g.macros.length) (c3:=c3) (c:=c1) (h.sorts.on StrR.lasts hW) h1 s);have HF2:=kp (fun W (hW:Below w.heap.size w W)=>rfunat_any (A1:=A1) (A3:=A3) (n1:=g.sorts.length) (c1:=c1) (n3:=g.macros.length) (c3:=c3) (c:=c2) FunR.lasts fun_name (h.funs.on FunR.lasts hW) h2 s);have HF3:=kp (fun W (hW:Below w.heap.size w W)=>rmacroat_any (A1:=A1) (A2:=A2) (n1:=g.sorts.length) (c1:=c1) (n2:=g.funs.length) (c2:=c2) (c:=c3) MacroR.lasts macro_name (h.macros.on MacroR.lasts hW) h3 s);have HE:=kp (show freeE g s sort=if !(Lx.mayB (Lx.bs s) && !Lx.resB (Lx.bs s)) then 31 else if sort then(if hasB (allSorts g.sorts) s then 32 else 0) else if hasB (g.funs.map Fun4.name) s || hasB (g.macros.map Macro.name) s || coreB (Lx.bs s) then 32 else 0 from rfl);clear h;generalize freeE g s sort=r at *;generalize Lx.mayB (Lx.bs s)=m at *;generalize Lx.resB (Lx.bs s)=rs at *;generalize coreB (Lx.bs s)=cr at *;generalize hasB (allSorts g.sorts) s=k1 at *;generalize hasB (g.funs.map Fun4.name) s=k2 at *;generalize hasB (g.macros.map Macro.name) s=k3 at *
 generalize findAt (allSorts g.sorts) s=i1 at *;generalize findAt (g.funs.map Fun4.name) s=i2 at *;generalize findAt (g.macros.map Macro.name) s=i3 at *;generalize g.sorts.length=n1 at *;generalize g.funs.length=n2 at *;generalize g.macros.length=n3 at *;obtain ⟨g0,g1,g2⟩:=sig_cells w (.slice A1 n1 c1) (.slice A2 n2 c2) (.slice A3 n3 c3) 26;have hz1:(w.alloc (.cells #[.slice A1 n1 c1,.slice A2 n2 c2,.slice A3 n3 c3] 26)).heap.size=w.heap.size+1:=by simp
 go_enter Tryz.func79,Tryz.ntmps79
 go_wp2_with fail
 generalize w.alloc (.cells #[.slice A1 n1 c1,.slice A2 n2 c2,.slice A3 n3 c3] 26)=w1 at *;refine(HM.out w1).mono ?_;rintro e w' ⟨rfl,rfl⟩
 cases m with
 | false =>
  go_wp2_with fail
  go_ret;exact⟨ret_int HE.out.symm,B1.out⟩
 | true =>
  go_wp2_with fail
  refine(HR.out w1).mono ?_;rintro e w' ⟨rfl,rfl⟩
  cases rs with
  | true =>
   go_wp2_with fail
   go_ret;exact⟨ret_int HE.out.symm,B1.out⟩
  | false =>
   replace HE:=kp (HE.out.trans (if_neg (by decide)));have hc1:=HF1.out w1 B1.out;go_wp2_with fail
   refine hc1.mono ?_;rintro e w2 ⟨rfl,hb2⟩;obtain ⟨p0,p1,p2⟩:=three_cells (b:=w.heap.size) hb2 (by omega) g0 g1 g2;have B2:=kp (B1.out.trans (hb2.mono B1.out.size));have hz2:w.heap.size < w2.heap.size:=by have:=hb2.size;omega
   clear g0 g1 g2 hb2 hz1
   cases sort with
   | true =>
    replace HE:=kp (HE.out.trans (if_pos rfl))
    cases k1 with
    | true =>
     go_wp2_with fail
     go_ret;exact⟨ret_int HE.out.symm,B2.out⟩
    | false =>
     go_wp2_with fail
     go_ret;exact⟨ret_int HE.out.symm,B2.out⟩
   | false =>
    replace HE:=kp (HE.out.trans (if_neg (by decide)));have hc2:=HF2.out w2 B2.out;go_wp2_with fail
    refine hc2.mono ?_;rintro e w3 ⟨rfl,hb3⟩;obtain ⟨q0,q1,q2⟩:=three_cells (b:=w.heap.size) hb3 (by omega) p0 p1 p2;have B3:=kp (B2.out.trans (hb3.mono B2.out.size));clear p0 p1 p2 hb3 hz2;have hc3:=HF3.out w3 B3.out;go_wp2_with fail
    refine hc3.mono ?_;rintro e w4 ⟨rfl,hb4⟩;have B4:=kp (B3.out.trans (hb4.mono B3.out.size));clear hb4
    cases k2 with
    | true =>
     go_wp2_with fail
     go_ret;exact⟨ret_int HE.out.symm,B4.out⟩
    | false =>
     cases k3 with
     | true =>
      go_wp2_with fail
      go_ret;exact⟨ret_int HE.out.symm,B4.out⟩
     | false =>
      go_wp2_with fail
      refine(HC.out w4).mono ?_;rintro e w' ⟨rfl,rfl⟩
      cases cr with
      | true =>
       go_wp2_with fail
       go_ret;exact⟨ret_int HE.out.symm,B4.out⟩
      | false =>
       go_wp2_with fail
       go_ret;exact⟨ret_int HE.out.symm,B4.out⟩
def paramB (n:Nat) (ps:List Param) (i:Nat):Bool:=match ps[i]? with
 | none=>true
 | some p=>usableB (Lx.bs p.name) && thereB n p.sort && !hasB ((ps.map Param.name).take i) p.name
def paramsTo (n:Nat) (ps:List Param) (k:Nat):Bool:=(List.range k).all (paramB n ps)
def macroB (n:Nat) (m:Macro):Bool:=decide (m.params.length<=3) && thereB n m.res && m.body.may && paramsTo n m.params m.params.length
theorem paramsTo_succ (n:Nat) (ps:List Param) (k:Nat):paramsTo n ps (k+1)=(paramsTo n ps k && paramB n ps k):=by unfold paramsTo;rw [List.range_succ,List.all_append];simp
theorem paramsTo_stop {n:Nat} {ps:List Param} {k:Nat} (hk:k < ps.length) (h:paramB n ps k=false):paramsTo n ps ps.length=false:=by
 unfold paramsTo;rw [List.all_eq_false];exact⟨k,List.mem_range.2 hk,by rw [h];simp⟩
theorem paramB_at {n:Nat} {ps:List Param} {k:Nat} {p:Param} (h:ps[k]?=some p):paramB n ps k=(Lx.mayB (Lx.bs p.name) && !Lx.resB (Lx.bs p.name) && thereB n p.sort && !hasB ((ps.map Param.name).take k) p.name):=by unfold paramB;rw [h];rfl
theorem mac_cells (w:World) (a b c d e f:Value) (t:TypeId):(w.alloc (.cells #[a,b,c,d,e,f] t)).cell? ⟨w.heap.size,1,none⟩=some b/\(w.alloc (.cells #[a,b,c,d,e,f] t)).cell? ⟨w.heap.size,2,none⟩=some c/\(w.alloc (.cells #[a,b,c,d,e,f] t)).cell? ⟨w.heap.size,3,none⟩=some d/\(w.alloc (.cells #[a,b,c,d,e,f] t)).cell? ⟨w.heap.size,4,none⟩=some e/\(w.alloc (.cells #[a,b,c,d,e,f] t)).cell? ⟨w.heap.size,5,none⟩=some f:=by
 refine⟨?_,?_,?_,?_,?_⟩ <;> rw [World.cell?_alloc_mark] <;> rfl
theorem take_has {ns:List ByteArray} {j k:Nat} {x y:ByteArray} (h:ns[j]?=some x) (hj:j < k) (e:x=y):hasB (ns.take k) y=true :=
 hasB_iff.2 (mgq (i:=j) (by rw [List.getElem?_take,if_pos hj,h,e]))
structure Boxes (w:World) (b:Nat) (u0 u1 u2 m1 m2 m3 m4 m5:Value):Prop where
 lt:b+1 < w.heap.size
 u0:w.cell? ⟨b,0,none⟩=some u0
 u1:w.cell? ⟨b,1,none⟩=some u1
 u2:w.cell? ⟨b,2,none⟩=some u2
 m1:w.cell? ⟨b+1,1,none⟩=some m1
 m2:w.cell? ⟨b+1,2,none⟩=some m2
 m3:w.cell? ⟨b+1,3,none⟩=some m3
 m4:w.cell? ⟨b+1,4,none⟩=some m4
 m5:w.cell? ⟨b+1,5,none⟩=some m5
theorem Boxes.on {w w':World} {b:Nat} {u0 u1 u2 m1 m2 m3 m4 m5:Value} (h:Boxes w b u0 u1 u2 m1 m2 m3 m4 m5) (hb:Below w.heap.size w w'):Boxes w' b u0 u1 u2 m1 m2 m3 m4 m5:=by
 have l0:b < w.heap.size:=by have:=h.lt;omega
 exact⟨Nat.lt_of_lt_of_le h.lt hb.size,((bcell hb).1 b 0 l0).trans h.u0,((bcell hb).1 b 1 l0).trans h.u1,((bcell hb).1 b 2 l0).trans h.u2,((bcell hb).1 (b+1) 1 h.lt).trans h.m1,((bcell hb).1 (b+1) 2 h.lt).trans h.m2,((bcell hb).1 (b+1) 3 h.lt).trans h.m3,((bcell hb).1 (b+1) 4 h.lt).trans h.m4,((bcell hb).1 (b+1) 5 h.lt).trans h.m5⟩
theorem boxes_made (w:World) (u0 u1 u2 m0 m1 m2 m3 m4 m5:Value) (t t':TypeId):Boxes ((w.alloc (.cells #[u0,u1,u2] t)).alloc (.cells #[m0,m1,m2,m3,m4,m5] t')) w.heap.size u0 u1 u2 m1 m2 m3 m4 m5:=by
 obtain ⟨g0,g1,g2⟩:=sig_cells w u0 u1 u2 t;obtain ⟨k1,k2,k3,k4,k5⟩:=mac_cells (w.alloc (.cells #[u0,u1,u2] t)) m0 m1 m2 m3 m4 m5 t';have hz:(w.alloc (.cells #[u0,u1,u2] t)).heap.size=w.heap.size+1:=by simp
 have hb:=(Below.refl (w.alloc (.cells #[u0,u1,u2] t)).heap.size (w.alloc (.cells #[u0,u1,u2] t))).alloc nlq (.cells #[m0,m1,m2,m3,m4,m5] t');have e:=fun o=>(bcell hb).1 w.heap.size o (by omega);rw [hz] at k1 k2 k3 k4 k5;exact⟨by simp,(e 0).trans g0,(e 1).trans g1,(e 2).trans g2,k1,k2,k3,k4,k5⟩
theorem rmacro_any {w:World} {A1 A2 A3:Option Addr} {c1 n2 c2 n3 c3:Nat} {l:List ByteArray} (h:Lies 1 StrR w A1 l) (hc:l.length<=c1) (hcm:(l.length:Int)<=140737488351232)
  {Ap Ab:Option Addr} {cp cb:Nat} (m:Macro) (hp:Lies 2 ParamR w Ap m.params) (hpl:m.params.length<=maxLen) (hx:SexpR w [.int .i8 m.body.kind,.string m.body.text,.slice Ab m.body.l.length cb] m.body) (hres:I64 m.res) :
  Calls Tryz.prog 81 #[.agg #[.slice A1 l.length c1,.slice A2 n2 c2,.slice A3 n3 c3],.agg #[.string m.name,.slice Ap m.params.length cp,.int .i64 m.res,.int .i8 m.body.kind,.string m.body.text,.slice Ab m.body.l.length cb]] w fun e w'=>e=.returned (.bool (macroB l.length m))/\Below w.heap.size w w':=by
 have HTh:=kp (fun s hs W (hW:Below w.heap.size w W)=>rthere_any (A2:=A2) (A3:=A3) (n2:=n2) (c2:=c2) (n3:=n3) (c3:=c3) (h.on StrR.lasts hW) hc hcm s hs);have HSx:=kp (fun W (hW:Below w.heap.size w W)=>rsxmay_any (SexpR.lasts _ _ _ _ hW hx));have HLp:=kp (fun W (hW:Below w.heap.size w W)=>hp.on ParamR.lasts hW);have HP:=kp (fun k p=>paramB_at (n:=l.length) (ps:=m.params) (k:=k) (p:=p));have HPs:=kp (paramsTo_succ l.length m.params);have HPx:=kp (fun k hk h=>paramsTo_stop (n:=l.length) (ps:=m.params) (k:=k) hk h);have HNm:=kp (fun k x=>map_at (l:=m.params) (nm:=Param.name) (k:=k) (x:=x));have HPL:=kp hpl;have HRI:=kp hres;have HE:=kp (show macroB l.length m=(decide (m.params.length<=3) && thereB l.length m.res && m.body.may && paramsTo l.length m.params m.params.length) from rfl);have HZ:=kp (show paramsTo l.length m.params 0=true from rfl);clear h hp hx hc hpl hres;generalize macroB l.length m=mb at *;generalize paramsTo l.length m.params=pt at *;generalize paramB l.length m.params=pb at *;generalize m.params.map Param.name=ns at *;generalize m.body.may=bm at *;generalize m.body.kind=bk at *;generalize m.body.text=bt at *;generalize m.body.l.length=bl at *;generalize m.params=ps at *;generalize m.res=res at *;generalize m.name=nm at *;have B2:=kp (((brq w).alloc nlq (.cells #[.slice A1 l.length c1,.slice A2 n2 c2,.slice A3 n3 c3] 26)).alloc (by simp) (.cells #[.string nm,.slice Ap ps.length cp,.int .i64 res,.int .i8 bk,.string bt,.slice Ab bl cb] 58))
 have HX2:=kp (boxes_made w (.slice A1 l.length c1) (.slice A2 n2 c2) (.slice A3 n3 c3) (.string nm) (.slice Ap ps.length cp) (.int .i64 res) (.int .i8 bk) (.string bt) (.slice Ab bl cb) 26 58)
 by_cases h3:3 < (ps.length:Int)
 ·go_enter Tryz.func81,Tryz.ntmps81
  go_wp2_with fail
  go_ret;exact⟨ret_bool (by rw [HE.out,dfq (by omega)];rfl),B2.out⟩
 ·have h3':decide (3 < (ps.length:Int))=false:=dfq h3;replace HE:=kp (show mb=(thereB l.length res && bm && pt ps.length) by rw [HE.out,decide_eq_true (show ps.length<=3 by omega)];rfl);obtain ⟨hz2,x0,x1,x2,y1,y2,y3,y4,y5⟩:=HX2.out
  go_enter Tryz.func81,Tryz.ntmps81
  go_wp2_with fail
  generalize (w.alloc (.cells #[.slice A1 l.length c1,.slice A2 n2 c2,.slice A3 n3 c3] 26)).alloc (.cells #[.string nm,.slice Ap ps.length cp,.int .i64 res,.int .i8 bk,.string bt,.slice Ab bl cb] 58)=w2 at *;have hcall:=HTh.out res HRI.out w2 B2.out;clear x0 x1 x2 y1 y2 y3 y4 y5
  cases ht:thereB l.length res with
  | false =>
   replace HE:=kp (show mb=false by rw [HE.out,ht];rfl);rw [ht] at hcall;clear ht;refine hcall.mono ?_;rintro e w3 ⟨rfl,hb⟩;have B3:=kp (B2.out.trans (hb.mono B2.out.size));clear hb;go_wp2_with fail
   go_ret;exact⟨ret_bool HE.out.symm,B3.out⟩
  | true =>
   replace HE:=kp (show mb=(bm && pt ps.length) by rw [HE.out,ht];rfl);rw [ht] at hcall;clear ht;refine hcall.mono ?_;rintro e w3 ⟨rfl,hb⟩;have B3:=kp (B2.out.trans (hb.mono B2.out.size));have HX3:=kp (HX2.out.on hb);clear hb HX2;obtain ⟨hz3,x0,x1,x2,y1,y2,y3,y4,y5⟩:=HX3.out;have hcall:=HSx.out w3 B3.out;go_wp2_with fail
   clear x0 x1 x2 y1 y2 y3 y4 y5
   cases bm with
   | false =>
    replace HE:=kp (show mb=false by rw [HE.out];rfl);refine hcall.mono ?_;rintro e w4 ⟨rfl,hb⟩;have B4:=kp (B3.out.trans (hb.mono B3.out.size));clear hb;go_wp2_with fail
    go_ret;exact⟨ret_bool HE.out.symm,B4.out⟩
   | true =>
    replace HE:=kp (show mb=pt ps.length by rw [HE.out];rfl);refine hcall.mono ?_;rintro e w4 ⟨rfl,hb⟩;have B4:=kp (B3.out.trans (hb.mono B3.out.size));have HX4:=kp (HX3.out.on hb);clear hb HX3 hcall;go_wp2_with fail
    go_loopw [5] (fun v wr=>∃ k:Nat,k<=ps.length/\v=.int .i64 k/\pt k=true/\Below w4.heap.size w4 wr) (fun v _=>ps.length - (intOf v).toNat)
    case atStart=>exact⟨0,by omega,rfl,HZ.out,Below.refl _ _⟩
    case round =>
     obtain ⟨k,hk,rfl,hok,hb⟩:=hrel;have HO:=kp hok;have B5:=kp (B4.out.trans (hb.mono B4.out.size));have B45:=kp hb;have HX5:=kp (HX4.out.on hb);clear hok hb
     by_cases hlt:k < ps.length
     ·have hlt2:(k:Int) < (ps.length:Int):=by omega
      have hx:=gqe hlt;generalize ps[k]=p at hx;have HL5:=kp (HLp.out wr B5.out);obtain ⟨b,o,vs,rfl,hbl,_,hcell,hr⟩:=HL5.out.at' hx;obtain ⟨rfl,hps,hpi⟩:=hr;have c0:=hcell 0 _ rfl;have c1:=hcell 1 _ rfl;rw [Nat.add_zero] at c0;have HPk:=kp (HP.out k p hx);have HNk:=kp (HNm.out k p hx);clear hx hcell;generalize p.name=y at *;generalize p.sort=sr at *;obtain ⟨hz5,x0,x1,x2,y1,y2,y3,y4,y5⟩:=HX5.out;go_wp2_with fail
      have BA:=kp ((brq wr).alloc nlq (.cells #[.string y,.int .i64 sr] 119));have z6:wr.heap.size < (wr.alloc (.cells #[.string y,.int .i64 sr] 119)).heap.size:=by simp
      have q0:(wr.alloc (.cells #[.string y,.int .i64 sr] 119)).cell? ⟨wr.heap.size,0,none⟩=some (.string y):=by rw [World.cell?_alloc_mark];rfl
      have q1:(wr.alloc (.cells #[.string y,.int .i64 sr] 119)).cell? ⟨wr.heap.size,1,none⟩=some (.int .i64 sr):=by rw [World.cell?_alloc_mark];rfl
      generalize wr.alloc (.cells #[.string y,.int .i64 sr] 119)=w6 at *;have B6:=kp (B5.out.trans (BA.out.mono B5.out.size));have B46:=kp (B45.out.trans (BA.out.mono B45.out.size));have HX6:=kp (HX5.out.on BA.out);clear HX5 x0 x1 x2 y1 y2 y3 y4 y5 c0 c1 hz5;have hm:=Lx.rmay_any y w6 (by omega);generalize Lx.mayB (Lx.bs y)=bmay at *
      cases bmay with
      | false =>
       have HR:=kp (show mb=false by rw [HE.out];exact HPx.out k hlt (by rw [HPk.out];rfl));refine hm.mono ?_;rintro e w7 ⟨rfl,rfl⟩;go_wp2_with fail
       go_ret;exact⟨ret_bool HR.out.symm,B6.out⟩
      | true =>
       refine hm.mono ?_;rintro e w7 ⟨rfl,rfl⟩;have hm:=Lx.rreserved_any y w6;go_wp2_with fail
       generalize Lx.resB (Lx.bs y)=brs at *
       cases brs with
       | true =>
        have HR:=kp (show mb=false by rw [HE.out];exact HPx.out k hlt (by rw [HPk.out];rfl));refine hm.mono ?_;rintro e w7 ⟨rfl,rfl⟩;go_wp2_with fail
        go_ret;exact⟨ret_bool HR.out.symm,B6.out⟩
       | false =>
        replace HPk:=kp (show pb k=(thereB l.length sr && !hasB (List.take k ns) y) from HPk.out);refine hm.mono ?_;rintro e w7 ⟨rfl,rfl⟩;have hcall:=HTh.out sr hpi w6 B6.out;obtain ⟨hz6,x0,x1,x2,y1,y2,y3,y4,y5⟩:=HX6.out;go_wp2_with fail
        clear x0 x1 x2 y1 y2 y3 y4 y5
        cases ht:thereB l.length sr with
        | false =>
         have HR:=kp (show mb=false by rw [HE.out];exact HPx.out k hlt (by rw [HPk.out,ht];rfl));rw [ht] at hcall;clear ht;refine hcall.mono ?_;rintro e w7 ⟨rfl,hb⟩;have B7:=kp (B6.out.trans (hb.mono B6.out.size));clear hb;go_wp2_with fail
         go_ret;exact⟨ret_bool HR.out.symm,B7.out⟩
        | true =>
         replace HPk:=kp (show pb k=!hasB (List.take k ns) y by rw [HPk.out,ht];rfl);rw [ht] at hcall;clear ht;refine hcall.mono ?_;rintro e w7 ⟨rfl,hb⟩;have B7:=kp (B6.out.trans (hb.mono B6.out.size));have B47:=kp (B46.out.trans (hb.mono B46.out.size));have HX7:=kp (HX6.out.on hb);have r0:=((bcell hb).1 wr.heap.size 0 z6).trans q0;have z7:wr.heap.size < w7.heap.size:=by have:=hb.size;omega
         clear hb q0 q1 hcall HX6 hz6 z6;go_wp2_with fail
         generalize wr.heap.size=bp at r0 z7 ⊢
         go_loopw [7] (fun v wv=>∃ j:Nat,j<=k/\v=.int .i64 j/\hasB (ns.take j) y=false/\Below w7.heap.size w7 wv) (fun v _=>k - (intOf v).toNat)
         case atStart=>exact⟨0,by omega,rfl,rfl,Below.refl _ _⟩
         case round =>
          obtain ⟨j,hj,rfl,hno,hb⟩:=hrel;have HNo:=kp hno;have HB:=kp hb;clear hno
          by_cases hjl:j < k
          ·have hjl2:(j:Int) < (k:Int):=by omega
           have hxj:=gqe (show j < ps.length by omega);generalize ps[j]=pj at hxj;have HL8:=kp (HLp.out wr (B7.out.trans (hb.mono B7.out.size)));obtain ⟨b',o',vs',hbo,hbl',_,hcell,hr⟩:=HL8.out.at' hxj;have hbo1:b'=b/\o'=o:=by simp at hbo;exact⟨hbo.1.symm,hbo.2.symm⟩
           obtain ⟨rfl,rfl⟩:=hbo1;obtain ⟨rfl,_,_⟩:=hr;have d0:=hcell 0 _ rfl;rw [Nat.add_zero] at d0;have HNj:=kp (HNm.out j pj hxj);clear hxj hcell;generalize pj.name=yj at *;obtain ⟨hz8,x0,x1,x2,y1,y2,y3,y4,y5⟩:=HX7.out.on hb;have s0:=((bcell hb).1 bp 0 z7).trans r0;clear hb
           by_cases he:yj=y
           ·have HR:=kp (show mb=false by rw [HE.out];exact HPx.out k hlt (by rw [HPk.out,take_has HNj.out hjl he];rfl));subst he;go_wp2_with fail
            go_region
            all_goals go_wp2_with fail
            go_ret;have B9:=B7.out.trans (HB.out.mono B7.out.size);exact⟨ret_bool HR.out.symm,⟨B9.os,B9.tape,B9.output,B9.size,B9.block⟩⟩
           ·have he1:=text_ne he;have HQ:=kp (find_step HNj.out HNo.out he);go_wp2_with fail
            go_region
            all_goals go_wp2_with fail
            go_roundw
            case rel=>exact⟨j+1,by omega,by go_num,HQ.out,⟨HB.out.os,HB.out.tape,HB.out.output,HB.out.size,HB.out.block⟩⟩
            case measure=>simp [intOf];omega
          ·obtain rfl:j=k:=by omega
           have HR:=kp (show pt (j+1)=true by rw [HPs.out,HO.out,HPk.out,HNo.out];rfl);have B9:=kp (B47.out.trans (HB.out.mono B47.out.size));clear hb;go_wp2_with fail
           go_roundw
           case rel=>exact⟨j+1,by omega,by go_num,HR.out,B9.out⟩
           case measure=>simp [intOf];omega
     ·obtain rfl:k=ps.length:=by omega
      have HR:=kp (HE.out.trans HO.out);obtain ⟨hz5,x0,x1,x2,y1,y2,y3,y4,y5⟩:=HX5.out;go_wp2_with fail
      go_ret;exact⟨ret_bool HR.out.symm,B5.out⟩
def allTo (p:Nat->Bool) (k:Nat):Bool:=(List.range k).all p
theorem allTo_zero (p:Nat->Bool):allTo p 0=true:=rfl
theorem allTo_succ (p:Nat->Bool) (k:Nat):allTo p (k+1)=(allTo p k && p k):=by unfold allTo;rw [List.range_succ,List.all_append];simp
theorem allTo_stop {p:Nat->Bool} {k n:Nat} (hk:k < n) (h:p k=false):allTo p n=false:=by
 unfold allTo;rw [List.all_eq_false];exact⟨k,List.mem_range.2 hk,by rw [h];simp⟩
def sortOk (l:List ByteArray) (i:Nat):Bool:=match l[i]? with
 | none=>true
 | some s=>usableB (Lx.bs s) && !hasB (allSorts (l.take i)) s
def funOk (g:Sig) (i:Nat):Bool:=match g.funs[i]? with
 | none=>true
 | some f=>usableB (Lx.bs f.name) && !(hasB ((g.funs.map Fun4.name).take i) f.name || coreB (Lx.bs f.name)) && funB g.sorts.length f
def macOk (g:Sig) (i:Nat):Bool:=match g.macros[i]? with
 | none=>true
 | some m=>usableB (Lx.bs m.name) && !(hasB (g.funs.map Fun4.name) m.name || hasB ((g.macros.map Macro.name).take i) m.name || coreB (Lx.bs m.name)) && macroB g.sorts.length m
def checkB (g:Sig):Bool :=
 (decide (g.sorts.length<=4) && decide (g.funs.length<=12) && decide (g.macros.length<=12)) && (allTo (sortOk g.sorts) g.sorts.length && allTo (funOk g) g.funs.length && allTo (macOk g) g.macros.length)
def checkE (g:Sig):Int:=if checkB g then 0 else 2
theorem checkE_true {g:Sig} (h:checkB g=true):checkE g=0:=by unfold checkE;rw [h];rfl
theorem checkE_false {g:Sig} (h:checkB g=false):checkE g=2:=by unfold checkE;rw [h];rfl
theorem free_sort {l:List ByteArray} {i:Nat} {s:ByteArray} (h:l[i]?=some s):(freeE ⟨l.take i,[],[]⟩ s true=0) ↔ sortOk l i=true:=by
 unfold freeE sortOk;rw [h]
 cases hu:usableB (Lx.bs s) <;> cases hh:hasB (allSorts (l.take i)) s <;> simp [hu,hh]
theorem free_fun {g:Sig} {i:Nat} {f:Fun4} (h:g.funs[i]?=some f):funOk g i=(decide (freeE ⟨g.sorts,g.funs.take i,[]⟩ f.name false=0) && funB g.sorts.length f):=by
 unfold freeE funOk;rw [h];simp only [List.map_take,List.map_nil]
 cases hu:usableB (Lx.bs f.name) <;> cases hh:hasB ((g.funs.map Fun4.name).take i) f.name <;> cases hc:coreB (Lx.bs f.name) <;> simp [hasB]
theorem free_macro {g:Sig} {i:Nat} {m:Macro} (h:g.macros[i]?=some m):macOk g i=(decide (freeE ⟨g.sorts,g.funs,g.macros.take i⟩ m.name false=0) && macroB g.sorts.length m):=by
 unfold freeE macOk;rw [h];simp only [List.map_take]
 cases hu:usableB (Lx.bs m.name) <;> cases hh:hasB (g.funs.map Fun4.name) m.name <;> cases hk:hasB ((g.macros.map Macro.name).take i) m.name <;> cases hc:coreB (Lx.bs m.name) <;> simp
end Sg
namespace El
open Go.RowKit Dt Sg
structure Node where
 op:Int
 len:Int
 a0:Int
 a1:Int
 a2:Int
 sort:Int
 fn:Int
 n:Int
deriving DecidableEq
def Node.arg (x:Node) (i:Nat):Int:=if i=0 then x.a0 else if i=1 then x.a1 else x.a2
abbrev V:=Int × Int
structure St where
 t:List Node
 calls:Int
 e:Int
structure Cx where
 g:Sig
 most:Int
 build:Bool
abbrev Env:=List (ByteArray × V)
def v0:V:=(0,0)
def sLet:ByteArray:={ data:=#[108,101,116] }
def sTrue:ByteArray:={ data:=#[116,114,117,101] }
def sFalse:ByteArray:={ data:=#[102,97,108,115,101] }
def sNot:ByteArray:={ data:=#[110,111,116] }
def sAnd:ByteArray:={ data:=#[97,110,100] }
def sOr:ByteArray:={ data:=#[111,114] }
def sXor:ByteArray:={ data:=#[120,111,114] }
def sImp:ByteArray:={ data:=#[61,62] }
def sEq:ByteArray:={ data:=#[61] }
def sDistinct:ByteArray:={ data:=#[100,105,115,116,105,110,99,116] }
def sIte:ByteArray:={ data:=#[105,116,101] }
def sLe:ByteArray:={ data:=#[60,61] }
def sLt:ByteArray:={ data:=#[60] }
def sGe:ByteArray:={ data:=#[62,61] }
def sGt:ByteArray:={ data:=#[62] }
def sPlus:ByteArray:={ data:=#[43] }
def sMinus:ByteArray:={ data:=#[45] }
def arityN (op:Int):Option (Int × Int) :=
 if op=13 then some (0,3)
 else if op=0\/op=10 then some (0,0)
 else if op=1\/op=11 then some (1,1)
 else if op=2\/op=3\/op=4\/op=5\/op=6\/op=8\/op=9\/op=12 then some (2,2)
 else if op=7 then some (3,3)
 else none
def argOkB (n:Node) (at':Int) (i:Nat):Bool:=if(i:Int) < n.len then decide (0<=n.arg i/\n.arg i < at') else decide (n.arg i=0)
def standsN (n:Node) (at':Int):Bool :=
 match arityN n.op with
 | none=>false
 | some (lo,hi)=>decide (lo<=n.len/\n.len<=hi) && decide (0<=n.sort/\n.sort < 6) && argOkB n at' 0 && argOkB n at' 1 && argOkB n at' 2
  && decide (0<=n.fn/\n.fn < 12) && (decide (n.fn=0) || decide (n.op=13)) && (if n.op=10\/n.op=11\/n.op=12 then mayB n.n else decide (n.n=0))
def nodeTrue:Node:=⟨0,0,0,0,0,0,0,0⟩
def nodeZero:Node:=⟨10,0,0,0,0,1,0,0⟩
def newT:List Node:=[nodeTrue,nodeZero]
def standsTo (t:List Node) (k:Nat):Bool:=(List.range k).all fun i=>match t[i]? with
 | some n=>standsN n i
 | none=>true
def checkT (t:List Node):Bool:=decide (t.take 2=newT) && standsTo t t.length && decide t.Nodup
def putT (t:List Node) (n:Node) (most:Int):List Node × Int × Int :=
 if checkT t && standsN n t.length then
  if n ∈ t then(t,(t.findIdx (fun x=>decide (x=n)):Nat),0)
  else if most<=t.length then([],0,40)
  else(t ++ [n],t.length,0)
 else([],0,2)
def opS (op:Int) (l:List Int):Option Int :=
 if op=0 then(if l=[] then some 0 else none)
 else if op=1 then(if l=[0] then some 0 else none)
 else if op=2\/op=3\/op=4\/op=5 then(if l=[0,0] then some 0 else none)
 else if op=6 then(match l with | [a,b]=>if 0<=a/\a=b then some 0 else none | _=>none)
 else if op=7 then(match l with | [a,b,c]=>if a=0/\0<=b/\b=c then some b else none | _=>none)
 else if op=8\/op=9\/op=12 then(if l=[1,1] then some 0 else none)
 else if op=10 then(if l=[] then some 1 else none)
 else if op=11 then(if l=[1] then some 1 else none)
 else none
def numN (x:Sexp):Option (Int × Int) :=
 if x.kind=1 then some (parseV (Lx.bs x.text),parseE (Lx.bs x.text))
 else if headS x=sMinus then match x.l with
  | [_,y]=>if y.kind=1 then some (- parseV (Lx.bs y.text),parseE (Lx.bs y.text)) else none
  | _=>none
 else none
def isNumX (x:Sexp):Bool:=(numN x).isSome
def findE (env:Env) (s:ByteArray):Option V:=(env.find? fun p=>decide (p.1=s)).map Prod.snd
def failS (e:Int) (st:St):St:=if st.e=0 then { st with e:=e } else st
def putM (c:Cx) (n:Node) (st:St):V × St :=
 if st.e≠0\/c.build=false then((n.sort,0),st)
 else if(putT st.t n c.most).2.2=0 then((n.sort,(putT st.t n c.most).2.1),{ st with t:=(putT st.t n c.most).1 })
 else(v0,{ st with e:=(putT st.t n c.most).2.2 })
def nthN (l:List V) (i:Nat):Int:=(l.getD i v0).2
def opM (c:Cx) (op n:Int) (l:List V) (st:St):V × St :=
 if st.e≠0 then(v0,st)
 else match opS op (l.map Prod.fst) with
  | none=>(v0,{ st with e:=33 })
  | some s=>putM c ⟨op,l.length,nthN l 0,nthN l 1,nthN l 2,s,0,if c.build then n else 0⟩ st
def numberM (c:Cx) (x:Sexp) (st:St):Int × St:=match numN x with
 | none=>(0,st)
 | some (n,e)=>(n,if e≠0/\c.build=true then failS e st else st)
abbrev Rec:=Nat->Sexp->Env->St->V × St
def allM (r:Sexp->St->V × St):List Sexp->St->List V × St
 | [],st=>([],st)
 | x :: l,st=>((r x st).1 :: (allM r l (r x st).2).1,(allM r l (r x st).2).2)
def sortsM:List V->List Int->St->St
 | v :: l,s :: q,st=>sortsM l q (if st.e=0/\v.1≠s then { st with e:=33 } else st)
 | _,_,st=>st
def applyM (c:Cx) (r:Sexp->St->V × St) (f:Fun4) (k:Nat) (l:List Sexp) (st:St):V × St :=
 if(l.length:Int)≠f.len then(v0,failS 30 st)
 else
  let a:=allM r l st
  putM c ⟨13,f.len,nthN a.1 0,nthN a.1 1,nthN a.1 2,f.res,k,0⟩ (sortsM a.1 [f.a0,f.a1,f.a2] a.2)
def macroM (c:Cx) (rec:Rec) (m:Macro) (k:Nat) (vs:List V) (st:St):V × St :=
 let st2:=sortsM vs (m.params.map Param.sort) st
 if st2.e≠0\/c.build=false then((m.res,0),st2)
 else if 300 < st2.calls+1 then(v0,{ st2 with calls:=st2.calls+1,e:=40 })
 else
  let p:=rec k m.body ((m.params.map Param.name).zip vs).reverse { st2 with calls:=st2.calls+1 }
  if p.2.e=0/\p.1.1≠m.res then(v0,{ p.2 with e:=33 }) else p
def callM (c:Cx) (rec:Rec) (known:Nat) (name:ByteArray) (l:List Sexp) (env:Env) (st:St):V × St :=
 if hasB (c.g.funs.map Fun4.name) name then match c.g.funs[findAt (c.g.funs.map Fun4.name) name]? with
  | some f=>applyM c (fun x=>rec known x env) f (findAt (c.g.funs.map Fun4.name) name) l st
  | none=>(v0,st)
 else if hasB (c.g.macros.map Macro.name) name/\findAt (c.g.macros.map Macro.name) name < known then match c.g.macros[findAt (c.g.macros.map Macro.name) name]? with
  | some m =>
   if l.length≠m.params.length then(v0,failS 30 st)
   else macroM c rec m (findAt (c.g.macros.map Macro.name) name) (allM (fun x=>rec known x env) l st).1 (allM (fun x=>rec known x env) l st).2
  | none=>(v0,st)
 else(v0,failS 31 st)
def bindN (b:Sexp):Option ByteArray:=if b.kind=3 then match b.l with
  | [y,_]=>if y.kind=0/\Lx.resB (Lx.bs y.text)=false then some y.text else none
  | _=>none
 else none
def boundN (x:Sexp):Option (List ByteArray):=match x.l with
 | [_,b,_] =>
  if b.kind=3/\b.l≠[] then b.l.foldl (fun(o:Option (List ByteArray)) y=>o.bind fun ns=>(bindN y).bind fun s=>if hasB ns s then none else some (ns ++ [s])) (some []) else none
 | _=>none
def secondX (b:Sexp):Sexp:=b.l.getD 1 (.mk 0 { data:=#[] } [])
def nthX (x:Sexp) (i:Nat):Sexp:=x.l.getD i (.mk 0 { data:=#[] } [])
def letM (rec:Rec) (known:Nat) (x:Sexp) (env:Env) (st:St):V × St:=match boundN x with
 | none=>(v0,failS 30 st)
 | some names =>
  let a:=allM (fun y=>rec known y env) ((nthX x 1).l.map secondX) st
  rec known (nthX x 2) ((names.zip a.1).reverse ++ env) a.2
def leftM (c:Cx) (op:Int) (v:V):List V->St->V × St
 | [],st=>(v,st)
 | x :: l,st=>leftM c op (opM c op 0 [v,x] st).1 l (opM c op 0 [v,x] st).2
def headM (c:Cx) (op:Int) (l:List V) (st:St):V × St:=leftM c op (l.getD 0 v0) l.tail st
def impM (c:Cx) (v:V):List V->St->V × St
 | [],st=>(v,st)
 | x :: l,st=>impM c (opM c 5 0 [x,v] st).1 l (opM c 5 0 [x,v] st).2
def alikeB (l:List V):Bool:=l.all fun v=>v.1 == (l.getD 0 v0).1
def eqsM (c:Cx):V->List V->St->List V × St
 | _,[],st=>([],st)
 | v,x :: l,st=>let p:=opM c 6 0 [v,x] st;((p.1 :: (eqsM c x l p.2).1),(eqsM c x l p.2).2)
def neqsM (c:Cx) (v:V):List V->St->List V × St
 | [],st=>([],st)
 | x :: l,st =>
  let p:=opM c 6 0 [v,x] st
  let q:=opM c 1 0 [p.1] p.2
  (q.1 :: (neqsM c v l q.2).1,(neqsM c v l q.2).2)
def distinctL (c:Cx):List V->St->List V × St
 | [],st=>([],st)
 | v :: l,st=>let a:=neqsM c v l st;(a.1 ++ (distinctL c l a.2).1,(distinctL c l a.2).2)
def equalM (c:Cx) (l:List V) (st:St):V × St :=
 let st1:=if alikeB l then st else failS 33 st
 if st1.e≠0 then(v0,st1) else headM c 2 (eqsM c (l.getD 0 v0) l.tail st1).1 (eqsM c (l.getD 0 v0) l.tail st1).2
def distinctM (c:Cx) (l:List V) (st:St):V × St :=
 let st1:=if alikeB l then st else failS 33 st
 if st1.e≠0 then(v0,st1) else headM c 2 (distinctL c l st1).1 (distinctL c l st1).2
def wayN (s:ByteArray):Option (Nat × Nat × Nat) :=
 if s=sNot then some (0,1,1) else if s=sAnd then some (1,2,1048576) else if s=sOr then some (2,2,1048576) else if s=sXor then some (3,2,1048576)
 else if s=sImp then some (4,2,1048576) else if s=sEq then some (5,2,1048576) else if s=sDistinct then some (6,2,1048576) else if s=sIte then some (7,3,3)
 else if s=sLe then some (8,2,2) else if s=sLt then some (9,2,2) else if s=sGe then some (10,2,2) else if s=sGt then some (11,2,2) else none
def makeM (c:Cx) (way:Nat) (l:List V) (st:St):V × St :=
 if way=0 then opM c 1 0 l st
 else if way=1 then headM c 2 l st
 else if way=2 then headM c 3 l st
 else if way=3 then headM c 4 l st
 else if way=4 then impM c (l.reverse.getD 0 v0) l.reverse.tail st
 else if way=5 then equalM c l st
 else if way=6 then distinctM c l st
 else if way=7 then opM c 7 0 l st
 else if way=8 then opM c 8 0 l st
 else if way=9 then opM c 9 0 l st
 else if way=10 then opM c 8 0 [l.getD 1 v0,l.getD 0 v0] st
 else opM c 9 0 [l.getD 1 v0,l.getD 0 v0] st
def minusB (x:Sexp):Bool:=decide (headS x=sMinus) && decide (x.l.length=3) && !isNumX (nthX x 2)
def diffM (c:Cx) (x y:V) (n:Int) (st:St):V × St :=
 if c.build=true/\st.e=0/\mayB n=false then(v0,{ st with e:=10 }) else opM c 12 n [x,y] st
def heldM (c:Cx) (name:ByteArray) (a b:V) (n:Int) (st:St):V × St :=
 if name=sLe then diffM c a b n st
 else if name=sLt then diffM c a b (n - 1) st
 else if name=sGe then diffM c b a (-n) st
 else if name=sGt then diffM c b a (-n - 1) st
 else
  let p:=diffM c a b n st
  let q:=diffM c b a (-n) p.2
  opM c 2 0 [p.1,q.1] q.2
def turnN (s:ByteArray):ByteArray:=if s=sLe then sGe else if s=sLt then sGt else if s=sGe then sLe else if s=sGt then sLt else s
def comparesB (s:ByteArray):Bool:=decide (s=sLe) || decide (s=sLt) || decide (s=sGe) || decide (s=sGt) || decide (s=sEq)
def differsN (name:ByteArray) (x:Sexp):Nat :=
 if x.l.length=3/\comparesB name=true then
  if minusB (nthX x 1) && isNumX (nthX x 2) then 1 else if minusB (nthX x 2) && isNumX (nthX x 1) then 2 else 0
 else 0
def diffLM (c:Cx) (r:Sexp->St->V × St) (name:ByteArray) (x:Sexp) (st:St):V × St :=
 let a:=r (nthX (nthX x 1) 1) st
 let b:=r (nthX (nthX x 1) 2) a.2
 let n:=numberM c (nthX x 2) b.2
 heldM c name a.1 b.1 n.1 n.2
def diffRM (c:Cx) (r:Sexp->St->V × St) (name:ByteArray) (x:Sexp) (st:St):V × St :=
 let n:=numberM c (nthX x 1) st
 let a:=r (nthX (nthX x 2) 1) n.2
 let b:=r (nthX (nthX x 2) 2) a.2
 heldM c (turnN name) a.1 b.1 n.1 b.2
def sumM (c:Cx) (r:Sexp->St->V × St) (name:ByteArray) (x:Sexp) (st:St):V × St :=
 if x.l.length=2/\name=sMinus then(v0,failS 34 (r (nthX x 1) st).2)
 else if x.l.length≠3 then(v0,failS 30 st)
 else if isNumX (nthX x 2) then
  let v:=r (nthX x 1) st
  let n:=numberM c (nthX x 2) v.2
  opM c 11 (if name=sMinus then - n.1 else n.1) [v.1] n.2
 else if name=sPlus/\isNumX (nthX x 1)=true then
  let n:=numberM c (nthX x 1) st
  let v:=r (nthX x 2) n.2
  opM c 11 n.1 [v.1] v.2
 else(v0,failS 34 (allM r x.l.tail st).2)
def listM (c:Cx) (rec:Rec) (known:Nat) (x:Sexp) (env:Env) (st:St):V × St :=
 if headS x=sLet then letM rec known x env st
 else if Lx.resB (Lx.bs (headS x))=true\/headS x=sTrue\/headS x=sFalse then(v0,failS 30 st)
 else if headS x=sPlus\/headS x=sMinus then sumM c (fun y=>rec known y env) (headS x) x st
 else match wayN (headS x) with
  | none=>if x.l.tail.length=0 then(v0,failS 30 st) else callM c rec known (headS x) x.l.tail env st
  | some (way,least,most) =>
   if x.l.tail.length < least\/most < x.l.tail.length then(v0,failS 30 st)
   else if differsN (headS x) x=1 then diffLM c (fun y=>rec known y env) (headS x) x st
   else if differsN (headS x) x=2 then diffRM c (fun y=>rec known y env) (headS x) x st
   else
    let a:=allM (fun y=>rec known y env) x.l.tail st
    if a.2.e≠0 then(v0,a.2) else makeM c way a.1 a.2
def isListB (x:Sexp):Bool:=decide (x.kind=3) && (match x.l with | []=>false | y :: _=>decide (y.kind=0))
def termStep (c:Cx) (rec:Rec) (known:Nat) (x:Sexp) (env:Env) (st:St):V × St :=
 if st.e≠0 then(v0,st)
 else if isNumX x then opM c 10 (numberM c x st).1 [] (numberM c x st).2
 else if isListB x then listM c rec known x env st
 else if x.kind≠0 then(v0,failS 30 st)
 else match findE env x.text with
  | some v=>(v,st)
  | none =>
   if x.text=sTrue then opM c 0 0 [] st
   else if x.text=sFalse then opM c 1 0 [(opM c 0 0 [] st).1] (opM c 0 0 [] st).2
   else if Lx.resB (Lx.bs x.text)=true then(v0,failS 30 st)
   else callM c rec known x.text [] env st
def termF (c:Cx):Nat->Rec
 | 0=>fun _ _ _ st=>(v0,st)
 | f+1=>termStep c (termF c f)
def sumB (ms:List Macro) (k:Nat):Nat:=((ms.take k).map fun m=>1+m.body.full).sum
def need (g:Sig) (known:Nat) (x:Sexp):Nat:=x.full+sumB g.macros known
theorem full_pos (x:Sexp):1<=x.full:=by rw [Sexp.full_eq];omega
theorem fullL_mem:∀ {l:List Sexp} {y:Sexp},y ∈ l->y.full<=Sexp.fullL l
 | [],y,h=>by cases h
 | x :: r,y,h=>by
  rw [Sexp.fullL_cons];rcases List.mem_cons.1 h with h | h
  ·subst h;omega
  ·have:=fullL_mem h;omega
theorem full_mem {x y:Sexp} (h:y ∈ x.l):y.full < x.full:=by
 have:=fullL_mem h;rw [Sexp.full_eq x];omega
theorem full_two {x:Sexp} (h:x.l≠[]):2<=x.full:=by
 cases hl:x.l with
 | nil=>exact absurd hl h
 | cons y r =>
  have h1:=full_mem (x:=x) (y:=y) (by rw [hl];simp);have h2:=full_pos y
  omega
theorem full_nth {x:Sexp} (h:x.l≠[]) (i:Nat):(nthX x i).full < x.full:=by
 unfold nthX;rw [List.getD_eq_getElem?_getD]
 cases hy:x.l[i]? with
 | none =>
  have h1:=full_two h;have h2:((none:Option Sexp).getD (.mk 0 { data:=#[] } [])).full=1:=by show(Sexp.mk 0 { data:=#[] } []).full=1;rw [Sexp.full_eq];show 1+(0:Nat)+Sexp.fullL []=1;rw [Sexp.fullL_nil]
  omega
 | some y=>exact full_mem (mgq hy)
theorem full_nth_le {x:Sexp} (i:Nat):(nthX x i).full<=x.full:=by
 by_cases h:x.l=[]
 ·unfold nthX;rw [h];have h2:(Sexp.mk 0 { data:=#[] } []).full=1:=by rw [Sexp.full_eq];show 1+(0:Nat)+Sexp.fullL []=1;rw [Sexp.fullL_nil]
  show(Sexp.mk 0 { data:=#[] } []).full<=_;rw [h2];exact full_pos x
 ·exact Nat.le_of_lt (full_nth h i)
theorem sumB_succ {ms:List Macro} {k:Nat} {m:Macro} (h:ms[k]?=some m):sumB ms (k+1)=sumB ms k+(1+m.body.full):=by
 unfold sumB;rw [List.take_add_one,h];simp
theorem sumB_mono (ms:List Macro) {j k:Nat} (h:j<=k):sumB ms j<=sumB ms k:=by
 induction k with
 | zero => obtain rfl : j = 0 := by omega
           exact nlq
 | succ k ih =>
  rcases Nat.lt_or_ge j (k+1) with h1 | h1
  ·have:=ih (by omega)
   have h2:sumB ms k<=sumB ms (k+1):=by
    cases hm:ms[k]? with
    | none=>unfold sumB;rw [List.take_of_length_le (show ms.length<=k by rw [List.getElem?_eq_none_iff] at hm;exact hm),List.take_of_length_le (show ms.length<=k+1 by rw [List.getElem?_eq_none_iff] at hm;omega)];exact nlq
    | some m=>rw [sumB_succ hm];omega
   omega
  ·obtain rfl:j=k+1:=by omega
   exact nlq
theorem sumB_lt {ms:List Macro} {k known:Nat} {m:Macro} (h:ms[k]?=some m) (hk:k < known):m.body.full+sumB ms k < sumB ms known:=by
 have h1:=sumB_succ h;have h2:=sumB_mono ms (show k+1<=known by omega)
 omega
def Agree (g:Sig) (r1 r2:Rec) (N:Nat):Prop:=∀ known y env st,need g known y < N->r1 known y env st=r2 known y env st
theorem allM_congr {r1 r2:Sexp->St->V × St}:∀ {l:List Sexp} {st:St},(∀ y ∈ l,∀ st,r1 y st=r2 y st)->allM r1 l st=allM r2 l st
 | [],st,_=>rfl
 | x :: l,st,h=>by
  unfold allM;rw [h x (by simp)];rw [allM_congr (l:=l) (fun y hy st=>h y (by simp [hy]) st)]
section
variable {c:Cx} {r1 r2:Rec} {known:Nat} {x:Sexp} {env:Env} {st:St}
theorem tail_full {y:Sexp} (h:y ∈ x.l.tail):y.full < x.full:=full_mem (List.mem_of_mem_tail h)
theorem callM_congr {l:List Sexp} {name:ByteArray} (h:Agree c.g r1 r2 (need c.g known x)) (hl:∀ y ∈ l,y.full < x.full):callM c r1 known name l env st=callM c r2 known name l env st:=by
 have hall:∀ st,allM (fun x=>r1 known x env) l st=allM (fun x=>r2 known x env) l st:=fun st=>allM_congr fun y hy st=>h _ _ _ _ (by have:=hl y hy;unfold need;omega);unfold callM
 split
 ·split
  ·unfold applyM;simp only [hall]
  ·rfl
 ·split
  ·rename_i hk
   split
   ·rename_i m hm
    split
    ·rfl
    ·unfold macroM;simp only [hall];rw [show ∀ e s,r1 (findAt (c.g.macros.map Macro.name) name) m.body e s=r2 (findAt (c.g.macros.map Macro.name) name) m.body e s from fun e s=>h _ _ _ _ (by have:=sumB_lt hm hk.2;unfold need;omega)]
   ·rfl
  ·rfl
theorem listM_congr (h:Agree c.g r1 r2 (need c.g known x)) (hx:x.l≠[]):listM c r1 known x env st=listM c r2 known x env st:=by
 have hr:∀ y,y.full < x.full->∀ e s,r1 known y e s=r2 known y e s:=fun y hy e s=>h _ _ _ _ (by unfold need;omega);have hall:∀ st,allM (fun y=>r1 known y env) x.l.tail st=allM (fun y=>r2 known y env) x.l.tail st:=fun st=>allM_congr fun y hy st=>hr y (tail_full hy) _ _;have h1:∀ i e s,r1 known (nthX x i) e s=r2 known (nthX x i) e s:=fun i=>hr _ (full_nth hx i);have h2:∀ i j e s,r1 known (nthX (nthX x i) j) e s=r2 known (nthX (nthX x i) j) e s:=fun i j=>hr _ (Nat.lt_of_le_of_lt (full_nth_le j) (full_nth hx i));unfold listM
 split
 ·unfold letM
  split
  ·rfl
  ·have ha:∀ st,allM (fun y=>r1 known y env) ((nthX x 1).l.map secondX) st=allM (fun y=>r2 known y env) ((nthX x 1).l.map secondX) st:=fun st=>allM_congr fun y hy st=>by
    obtain ⟨b,hb,rfl⟩:=List.mem_map.1 hy;refine hr _ ?_ _ _;have h3:=full_mem hb;have h4:=full_nth hx 1;have h5:(secondX b).full<=b.full:=full_nth_le (x:=b) 1
    omega
   simp only [ha,h1]
 split
 ·rfl
 split
 ·unfold sumM;simp only [h1,hall]
 split
 ·split
  ·rfl
  ·exact callM_congr h fun y hy=>tail_full hy
 split
 ·rfl
 split
 ·unfold diffLM;simp only [h2]
 split
 ·unfold diffRM;simp only [h2]
 ·simp only [hall]
theorem isList_ne (h:isListB x=true):x.l≠[]:=by
 intro e;unfold isListB at h;rw [e] at h;simp at h
theorem step_congr (h:Agree c.g r1 r2 (need c.g known x)):termStep c r1 known x env st=termStep c r2 known x env st:=by
 unfold termStep
 split
 ·rfl
 split
 ·rfl
 split
 ·rename_i hl
  exact listM_congr h (isList_ne hl)
 split
 ·rfl
 split
 ·rfl
 split
 ·rfl
 split
 ·rfl
 split
 ·rfl
 ·exact callM_congr h fun y hy=>by cases hy
end
theorem termF_more (c:Cx):∀ (f1 f2:Nat),∀ known x env st,need c.g known x < f1->need c.g known x < f2->termF c f1 known x env st=termF c f2 known x env st
 | 0,_,_,_,_,_,h,_=>by omega
 | _+1,0,_,_,_,_,_,h=>by omega
 | f1+1,f2+1,known,x,env,st,h1,h2=>step_congr fun k y e s hy=>termF_more c f1 f2 k y e s (by omega) (by omega)
def termP (c:Cx):Rec:=fun known x env st=>termF c (need c.g known x+1) known x env st
theorem termP_of {c:Cx} {f known:Nat} {x:Sexp} {env:Env} {st:St} (h:need c.g known x < f):termF c f known x env st=termP c known x env st:=termF_more c _ _ _ _ _ _ h (Nat.lt_succ_self _)
theorem termP_eq (c:Cx) (known:Nat) (x:Sexp) (env:Env) (st:St):termP c known x env st=termStep c (termP c) known x env st:=by
 show termStep c (termF c (need c.g known x)) known x env st=_;exact step_congr fun k y e s hy=>termP_of hy
end El
namespace El
open Go.RowKit Dt Sg
def XAt (w:World) (A:Option Addr) (c:Nat) (x:Sexp):Prop:=SexpR w [.int .i8 x.kind,.string x.text,.slice A x.l.length c] x
theorem XAt.on {w w':World} {A:Option Addr} {c:Nat} {x:Sexp} (h:XAt w A c x) (hb:Below w.heap.size w w'):XAt w' A c x:=SexpR.lasts _ _ _ _ hb h
theorem XAt.opens {w:World} {A:Option Addr} {c:Nat} {x:Sexp} (h:XAt w A c x):Lies 3 SexpR w A x.l/\x.l.length<=c/\c<=maxLen/\(x.text.size:Int)<=140737488351232/\x.l.length * 48<=140737488351232/\(Lit.int .i8 x.kind).wf=true:=by
 obtain ⟨A0,c0,e0,hl,h2,h3,h4,h5,h6⟩:=SexpR.open' h;simp only [List.cons.injEq,Value.slice.injEq,and_true,true_and] at e0;obtain ⟨rfl,rfl⟩:=e0;exact⟨hl,h2,h3,h4,h5,h6⟩
def numR (x:Sexp):Int × Bool × Int:=match numN x with
 | some (n,e)=>(n,true,e)
 | none=>(0,false,0)
theorem parseV_lim (l:List UInt8):0<=parseV l/\parseV l<=4611686018427387904:=by
 unfold parseV
 split
 ·rename_i hn
  unfold isNum at hn;simp only [Bool.and_eq_true] at hn;have:=putAll_le l hn.2
  split <;> omega
 ·omega
theorem tl_true {t:ByteArray} {l:List UInt8} (h:t=⟨l.toArray⟩):(t.toList == l)=true:=by
 rw [h,Lx.bs_toList];unfold Lx.bs;simp
theorem tl_false {t:ByteArray} {l:List UInt8} (h:t≠⟨l.toArray⟩):(t.toList == l)=false:=by
 rw [beq_eq_false_iff_ne];intro e;rw [Lx.bs_toList] at e;unfold Lx.bs at e;exact h (ByteArray.ext (Array.toList_inj.1 (by rw [e])))
def NumPost (x:Sexp) (w:World) (e:Ending) (w':World):Prop:=e=.returned (.tuple #[.int .i64 (numR x).1,.bool (numR x).2.1,.int .i64 (numR x).2.2])/\Below w.heap.size w w'
theorem numeralX_any {w:World} {A:Option Addr} {c:Nat} {x:Sexp} (h:XAt w A c x) :
  Calls Tryz.prog 90 #[.agg #[.int .i8 x.kind,.string x.text,.slice A x.l.length c]] w (NumPost x w):=by
 have HP:=kp (show ∀ n b e w',numR x=(n,b,e)->Below w.heap.size w w'->NumPost x w (.returned (.tuple #[.int .i64 n,.bool b,.int .i64 e])) w' from fun n b e w' h1 h2=>by unfold NumPost;rw [h1];exact⟨rfl,h2⟩);obtain ⟨hl,hc,hcm,ht,hlb,hk⟩:=h.opens;have HL:=kp hl;have HX:=kp h;have HN:=kp (show numR x=match numN x with | some (n,e)=>(n,true,e) | none=>(0,false,0) from rfl)
 have HNN:=kp (show numN x=if x.kind=1 then some (parseV (Lx.bs x.text),parseE (Lx.bs x.text))
  else if headS x=sMinus then match x.l with
   | [_,y]=>if y.kind=1 then some (- parseV (Lx.bs y.text),parseE (Lx.bs y.text)) else none
   | _=>none
  else none from rfl)
 have HH:=kp (fun W (hW:Below w.heap.size w W)=>head_any (h.on hW));have XB:=kp (Bk.new w (.cells #[.int .i8 x.kind,.string x.text,.slice A x.l.length c] 40));have B1:=kp ((brq w).alloc nlq (.cells #[.int .i8 x.kind,.string x.text,.slice A x.l.length c] 40));have hk128:-128<=x.kind/\x.kind<=127:=by simp [Lit.wf] at hk;exact hk
 clear h hl;generalize NumPost x w=PP at *;generalize numR x=res at *;generalize numN x=nx at *
 go_enter Tryz.func90,Tryz.ntmps90
 go_upto_region 1 with fail
 generalize w.alloc (.cells #[.int .i8 x.kind,.string x.text,.slice A x.l.length c] 40)=w1 at *;obtain ⟨q0,q1,q2,qf⟩:=Bk.c3 XB.out
 by_cases h1:x.kind=1
 ·have h1':(x.kind == 1)=true:=by simp [h1]
  replace HNN:=kp (HNN.out.trans (if_pos h1));rw [HNN.out] at HN;have HPr:=kp (fun W=>parse_any x.text (by omega) W);clear h1;go_wp2_with fail
  refine(HPr.out w1).mono ?_;rintro e w2 ⟨rfl,hb⟩;have B2:=kp (B1.out.trans (hb.mono B1.out.size));clear hb;go_wp2_with fail
  go_ret3;exact HP.out _ _ _ _ HN.out B2.out
 ·have h1':(x.kind == 1)=false:=by simp [h1]
  replace HNN:=kp (HNN.out.trans (if_neg h1));clear h1;go_wp2_with fail
  refine(HH.out w1 B1.out).mono ?_;rintro e w2 ⟨rfl,hb⟩;have B2:=kp (B1.out.trans (hb.mono B1.out.size));have X2:=kp (Bk.on XB.out hb);clear hb q0 q1 q2 qf;obtain ⟨q0,q1,q2,qf⟩:=Bk.c3 X2.out
  by_cases h2:headS x=sMinus
  ·replace HNN:=kp (HNN.out.trans (if_pos h2))
   by_cases h3:x.l.length=2
   ·obtain ⟨y0,y,hxl⟩:∃ y0 y,x.l=[y0,y]:=by
     match hx:x.l,h3 with
     | [y0,y],_=>exact⟨y0,y,rfl⟩
    obtain ⟨b,o,A',c',rfl,hbl,e0,e1,e2,hr⟩:=sexp_cells (HL.out.on SexpR.lasts B2.out) (k:=1) (y:=y) (by rw [hxl];rfl);rw [hxl] at HNN;replace HNN:=kp (show nx=if y.kind=1 then some (- parseV (Lx.bs y.text),parseE (Lx.bs y.text)) else none from HNN.out);obtain ⟨_,_,_,hyt,_,hyk⟩:=XAt.opens hr;have h2':((headS x).toList == [45])=true:=tl_true h2;have h3':((x.l.length:Int) == 2)=true:=by rw [h3];rfl
    have h3'':(1:Int) < (x.l.length:Int):=by omega
    clear h2 h3;rw [Nat.one_mul] at e0 e1 e2;clear hxl
    by_cases h4:y.kind=1
    ·have h4':(y.kind == 1)=true:=by simp [h4]
     replace HNN:=kp (HNN.out.trans (if_pos h4));rw [HNN.out] at HN;have HPr:=kp (fun W=>parse_any y.text (by omega) W);have hlim:=parseV_lim (Lx.bs y.text);unfold Lx.bs at hlim HN;generalize parseV y.text.data.toList=v at *;generalize parseE y.text.data.toList=ve at *;clear h4;go_wp2_with fail
     refine(HPr.out w2).mono ?_;rintro e w3 ⟨rfl,hb⟩;have B3:=kp (B2.out.trans (hb.mono B2.out.size));clear hb;go_wp2_with fail
     go_ret3;exact HP.out _ _ _ _ HN.out B3.out
    ·have h4':(y.kind == 1)=false:=by simp [h4]
     replace HNN:=kp (HNN.out.trans (if_neg h4));rw [HNN.out] at HN;clear h4;go_wp2_with fail
     go_ret3;exact HP.out _ _ _ _ HN.out B2.out
   ·have h3':((x.l.length:Int) == 2)=false:=by rw [beq_eq_false_iff_ne];omega
    have HNo:=kp (show nx=none by
     rw [HNN.out]
     match hx:x.l,h3 with
     | [],_=>rfl
     | [_],_=>rfl
     | _ :: _ :: _ :: _,_=>rfl)
    rw [HNo.out] at HN;have h2':((headS x).toList == [45])=true:=tl_true h2;clear h2;go_wp2_with fail
    go_ret3;exact HP.out _ _ _ _ HN.out B2.out
  ·replace HNN:=kp (HNN.out.trans (if_neg h2));rw [HNN.out] at HN;have h2':((headS x).toList == [45])=false:=tl_false h2;go_wp2_with fail
   go_ret3;exact HP.out _ _ _ _ HN.out B2.out
end El
namespace Sg
open Go.RowKit Dt
structure RC (g:Sig) (w:World) (u0 u1 u2:Value) (wr:World) (v1 v2 v3:Value) (k1 k2 k3:Nat):Prop where
 keep:Below w.heap.size w wr
 g0:wr.cell? ⟨w.heap.size,0,none⟩=some u0
 g1:wr.cell? ⟨w.heap.size,1,none⟩=some u1
 g2:wr.cell? ⟨w.heap.size,2,none⟩=some u2
 ob:wr.heap[w.heap.size+1]?=some (.cells #[v1,v2,v3] 26 (0,0))
 r1:Grows 1 StrR 9 w (w.heap.size+2) wr v1 (g.sorts.take k1)
 r2:Grows 6 FunR 108 w (w.heap.size+2) wr v2 (g.funs.take k2)
 r3:Grows 6 MacroR 58 w (w.heap.size+2) wr v3 (g.macros.take k3)
 d12:∀ k,v1.ownBlock=some k->v2.ownBlock≠some k
 d13:∀ k,v1.ownBlock=some k->v3.ownBlock≠some k
 d23:∀ k,v2.ownBlock=some k->v3.ownBlock≠some k
section
variable {g:Sig} {w wr w':World} {u0 u1 u2 v1 v2 v3:Value} {k1 k2 k3:Nat}
theorem RC.lt (h:RC g w u0 u1 u2 wr v1 v2 v3 k1 k2 k3):w.heap.size+1 < wr.heap.size:=lt_of_block h.ob
theorem RC.below (h:RC g w u0 u1 u2 wr v1 v2 v3 k1 k2 k3) (hb:Below wr.heap.size wr w'):RC g w u0 u1 u2 w' v1 v2 v3 k1 k2 k3:=by
 have l:=h.lt;have e:=fun o=>(bcell hb).1 w.heap.size o (by omega);exact⟨h.keep.trans (hb.mono h.keep.size),(e 0).trans h.g0,(e 1).trans h.g1,(e 2).trans h.g2,(hb.block _ l).trans h.ob,h.r1.below hb,h.r2.below hb,h.r3.below hb,h.d12,h.d13,h.d23⟩
theorem RC.drew (h:RC g w u0 u1 u2 wr v1 v2 v3 k1 k2 k3):RC g w u0 u1 u2 wr.drew v1 v2 v3 k1 k2 k3:=h.below (Below.refl _ _).drew
theorem RC.alloc (h:RC g w u0 u1 u2 wr v1 v2 v3 k1 k2 k3) (o:Obj):RC g w u0 u1 u2 (wr.alloc o) v1 v2 v3 k1 k2 k3:=h.below ((Below.refl _ _).alloc nlq o)
theorem RC.o (h:RC g w u0 u1 u2 wr v1 v2 v3 k1 k2 k3):wr.cell? ⟨w.heap.size+1,0,none⟩=some v1/\wr.cell? ⟨w.heap.size+1,1,none⟩=some v2/\wr.cell? ⟨w.heap.size+1,2,none⟩=some v3/\∀ j,wr.frozen? ⟨w.heap.size+1,j,none⟩=false :=
 ⟨by rw [cell_of_cells h.ob];rfl,by rw [cell_of_cells h.ob];rfl,by rw [cell_of_cells h.ob];rfl,fun j=>frozen_of_cells h.ob j⟩
theorem take_len {α:Type} {l:List α} {k:Nat} (h:k<=l.length):(l.take k).length=k:=by rw [List.length_take];omega
theorem RC.shape (h:RC g w u0 u1 u2 wr v1 v2 v3 k1 k2 k3) (h1:k1<=g.sorts.length) (h2:k2<=g.funs.length) (h3:k3<=g.macros.length) :
  (∃ A c,v1=.slice A k1 c/\k1<=c/\c<=maxLen)/\(∃ A c,v2=.slice A k2 c/\k2<=c/\c<=maxLen)/\(∃ A c,v3=.slice A k3 c/\k3<=c/\c<=maxLen):=by
 have a:=h.r1.shape;have b:=h.r2.shape;have c:=h.r3.shape;rw [take_len h1] at a;rw [take_len h2] at b;rw [take_len h3] at c;exact⟨a,b,c⟩
theorem RC.sig {A1 A2 A3:Option Addr} {c1 c2 c3:Nat} (h:RC g w u0 u1 u2 wr (.slice A1 k1 c1) (.slice A2 k2 c2) (.slice A3 k3 c3) k1 k2 k3) (h1:k1<=g.sorts.length) (h2:k2<=g.funs.length) (h3:k3<=g.macros.length) :
  SigAt wr A1 c1 A2 c2 A3 c3 ⟨g.sorts.take k1,g.funs.take k2,g.macros.take k3⟩:=by
 obtain ⟨⟨a,b,e1,p1,q1⟩,⟨a',b',e2,p2,q2⟩,⟨a'',b'',e3,p3,q3⟩⟩:=h.shape h1 h2 h3;simp only [Value.slice.injEq] at e1 e2 e3;have r1:=h.r1;have r2:=h.r2;have r3:=h.r3;have t1:=take_len h1;have t2:=take_len h2;have t3:=take_len h3;have x1:Value.slice A1 k1 c1=.slice A1 (g.sorts.take k1).length c1:=by rw [t1]
 have x2:Value.slice A2 k2 c2=.slice A2 (g.funs.take k2).length c2:=by rw [t2]
 have x3:Value.slice A3 k3 c3=.slice A3 (g.macros.take k3).length c3:=by rw [t3]
 rw [x1] at r1;rw [x2] at r2;rw [x3] at r3;exact⟨r1.lies StrR.lasts h.keep,r2.lies FunR.lasts h.keep,r3.lies MacroR.lasts h.keep,by rw [t1];omega,by rw [t2];omega,by rw [t3];omega,by omega,by omega,by omega⟩
theorem shape_of_owns {w:World} {B n s:Nat} {t:TypeId} {v:Value} {xs:List Value} (h:w.ownsRow B t s v n xs):∃ A c,v=.slice A n c:=by
 rcases h.2 with⟨rfl,rfl⟩ | ⟨g,cap,cur,rfl,_⟩
 ·exact⟨none,0,rfl⟩
 ·exact⟨_,cap,rfl⟩
theorem RC.frame {v v':Value} {j:Nat} (h:RC g w u0 u1 u2 wr v1 v2 v3 k1 k2 k3) (hg:wr.grownBy w' v.ownBlock) (hv:∀ k,v.ownBlock=some k->w.heap.size+2<=k) :
  Below w.heap.size w (w'.setCell ⟨w.heap.size+1,j,none⟩ v')/\(w'.setCell ⟨w.heap.size+1,j,none⟩ v').cell? ⟨w.heap.size,0,none⟩=some u0/\(w'.setCell ⟨w.heap.size+1,j,none⟩ v').cell? ⟨w.heap.size,1,none⟩=some u1/\(w'.setCell ⟨w.heap.size+1,j,none⟩ v').cell? ⟨w.heap.size,2,none⟩=some u2 /\
   (w'.setCell ⟨w.heap.size+1,j,none⟩ v').heap[w.heap.size+1]?=some (.cells ((#[v1,v2,v3]:Array Value).setIfInBounds j v') 26 (0,0)):=by
 have l:=h.lt;have hbk:∀ k,k < w.heap.size+2->some k≠v.ownBlock:=fun k hk e=>by have:=hv k e.symm;omega
 have hgb:(w'.setCell ⟨w.heap.size+1,j,none⟩ v').heap[w.heap.size]?=wr.heap[w.heap.size]?:=(Below.heap_setCell w' ⟨w.heap.size+1,j,none⟩ v' w.heap.size (by simp)).trans (hg.block _ (by omega) (hbk _ (by omega)));have e:=fun o=>World.cell?_of_block (w:=wr) (w':=w'.setCell ⟨w.heap.size+1,j,none⟩ v') (a:=⟨w.heap.size,o,none⟩) hgb;refine⟨?_,(e 0).trans h.g0,(e 1).trans h.g1,(e 2).trans h.g2,?_⟩
 ·exact(h.keep.grown hg h.keep.size (fun k hk=>by have:=hv k hk;omega)).setCell (by simp) _
 ·have:=(hg.block _ l (hbk _ (by omega))).trans h.ob;simp [World.setCell,Array.getElem?_modify,this]
theorem RC.grown {v:Value} (h:RC g w u0 u1 u2 wr v1 v2 v3 k1 k2 k3) (hg:wr.grownBy w' v.ownBlock) (hv:∀ k,v.ownBlock=some k->w.heap.size+2<=k) :
  w'.cell? ⟨w.heap.size+1,0,none⟩=some v1/\w'.cell? ⟨w.heap.size+1,1,none⟩=some v2/\w'.cell? ⟨w.heap.size+1,2,none⟩=some v3/\∀ j,w'.frozen? ⟨w.heap.size+1,j,none⟩=false:=by
 have e:=(hg.block _ h.lt (fun e=>by have:=hv _ e.symm;omega)).trans h.ob;exact⟨by rw [cell_of_cells e];rfl,by rw [cell_of_cells e];rfl,by rw [cell_of_cells e];rfl,fun j=>frozen_of_cells e j⟩
theorem RC.push1 {x:ByteArray} {vals vs:List Value} {v':Value} (h:RC g w u0 u1 u2 wr v1 v2 v3 k1 k2 k3) (hk:k1<=g.sorts.length) (hx:g.sorts[k1]?=some x) (hl:vals.length=k1 * 1)
  (hr:∀ i x,(g.sorts.take k1)[i]?=some x->∃ vs:List Value,vs.length=1/\StrR w vs x/\∀ j u,vs[j]?=some u->vals[i * 1+j]?=some u)
  (ho:w'.ownsRow (w.heap.size+2) 9 1 v' (k1+1) (vals ++ vs)) (hg:wr.grownBy w' v1.ownBlock) (hat:v'.ownBlock=v1.ownBlock\/v'.ownBlock=some wr.heap.size) (hR:StrR w vs x) (hvs:vs.length=1) :
  RC g w u0 u1 u2 (w'.setCell ⟨w.heap.size+1,0,none⟩ v') v' v2 v3 (k1+1) k2 k3:=by
 obtain ⟨f1,f2,f3,f4,f5⟩:=h.frame (j:=0) (v':=v') hg (fun k hk=>(h.r1.lt k hk).1);have t:=take_len hk;have e:g.sorts.take (k1+1)=g.sorts.take k1 ++ [x]:=by rw [List.take_add_one,hx];rfl
 have n2:v2.ownBlock=none\/v2.ownBlock≠v1.ownBlock:=by cases hb:v2.ownBlock with | none=>exact .inl rfl | some k=>exact .inr (fun e=>h.d12 k e.symm hb)
 have n3:v3.ownBlock=none\/v3.ownBlock≠v1.ownBlock:=by cases hb:v3.ownBlock with | none=>exact .inl rfl | some k=>exact .inr (fun e=>h.d13 k e.symm hb)
 refine⟨f1,f2,f3,f4,f5,by rw [e];exact(Grows.push (xs:=g.sorts.take k1) (by rw [t];exact hl) hr (by rw [t];exact ho) hR hvs).setCell _ (by simp),(h.r2.kept hg n2).setCell _ (by simp),(h.r3.kept hg n3).setCell _ (by simp),?_,?_,?_⟩
 ·intro k hk he;rcases hat with q | q
  ·exact h.d12 k (q.symm.trans hk) he
  ·have:=(h.r2.lt k he).2;rw [q] at hk;simp at hk;omega
 ·intro k hk he;rcases hat with q | q
  ·exact h.d13 k (q.symm.trans hk) he
  ·have:=(h.r3.lt k he).2;rw [q] at hk;simp at hk;omega
 ·exact h.d23
theorem RC.push2 {x:Fun4} {vals vs:List Value} {v':Value} (h:RC g w u0 u1 u2 wr v1 v2 v3 k1 k2 k3) (hk:k2<=g.funs.length) (hx:g.funs[k2]?=some x) (hl:vals.length=k2 * 6)
  (hr:∀ i x,(g.funs.take k2)[i]?=some x->∃ vs:List Value,vs.length=6/\FunR w vs x/\∀ j u,vs[j]?=some u->vals[i * 6+j]?=some u)
  (ho:w'.ownsRow (w.heap.size+2) 108 6 v' (k2+1) (vals ++ vs)) (hg:wr.grownBy w' v2.ownBlock) (hat:v'.ownBlock=v2.ownBlock\/v'.ownBlock=some wr.heap.size) (hR:FunR w vs x) (hvs:vs.length=6) :
  RC g w u0 u1 u2 (w'.setCell ⟨w.heap.size+1,1,none⟩ v') v1 v' v3 k1 (k2+1) k3:=by
 obtain ⟨f1,f2,f3,f4,f5⟩:=h.frame (j:=1) (v':=v') hg (fun k hk=>(h.r2.lt k hk).1);have t:=take_len hk;have e:g.funs.take (k2+1)=g.funs.take k2 ++ [x]:=by rw [List.take_add_one,hx];rfl
 have n1:v1.ownBlock=none\/v1.ownBlock≠v2.ownBlock:=by cases hb:v1.ownBlock with | none=>exact .inl rfl | some k=>exact .inr (fun e=>h.d12 k hb e.symm)
 have n3:v3.ownBlock=none\/v3.ownBlock≠v2.ownBlock:=by cases hb:v3.ownBlock with | none=>exact .inl rfl | some k=>exact .inr (fun e=>h.d23 k e.symm hb)
 refine⟨f1,f2,f3,f4,f5,(h.r1.kept hg n1).setCell _ (by simp),by rw [e];exact(Grows.push (xs:=g.funs.take k2) (by rw [t];exact hl) hr (by rw [t];exact ho) hR hvs).setCell _ (by simp),(h.r3.kept hg n3).setCell _ (by simp),?_,?_,?_⟩
 ·intro k hk he;rcases hat with q | q
  ·exact h.d12 k hk (q.symm.trans he)
  ·have:=(h.r1.lt k hk).2;rw [q] at he;simp at he;omega
 ·exact h.d13
 ·intro k hk he;rcases hat with q | q
  ·exact h.d23 k (q.symm.trans hk) he
  ·have:=(h.r3.lt k he).2;rw [q] at hk;simp at hk;omega
theorem RC.push3 {x:Macro} {vals vs:List Value} {v':Value} (h:RC g w u0 u1 u2 wr v1 v2 v3 k1 k2 k3) (hk:k3<=g.macros.length) (hx:g.macros[k3]?=some x) (hl:vals.length=k3 * 6)
  (hr:∀ i x,(g.macros.take k3)[i]?=some x->∃ vs:List Value,vs.length=6/\MacroR w vs x/\∀ j u,vs[j]?=some u->vals[i * 6+j]?=some u)
  (ho:w'.ownsRow (w.heap.size+2) 58 6 v' (k3+1) (vals ++ vs)) (hg:wr.grownBy w' v3.ownBlock) (hat:v'.ownBlock=v3.ownBlock\/v'.ownBlock=some wr.heap.size) (hR:MacroR w vs x) (hvs:vs.length=6) :
  RC g w u0 u1 u2 (w'.setCell ⟨w.heap.size+1,2,none⟩ v') v1 v2 v' k1 k2 (k3+1):=by
 obtain ⟨f1,f2,f3,f4,f5⟩:=h.frame (j:=2) (v':=v') hg (fun k hk=>(h.r3.lt k hk).1);have t:=take_len hk;have e:g.macros.take (k3+1)=g.macros.take k3 ++ [x]:=by rw [List.take_add_one,hx];rfl
 have n1:v1.ownBlock=none\/v1.ownBlock≠v3.ownBlock:=by cases hb:v1.ownBlock with | none=>exact .inl rfl | some k=>exact .inr (fun e=>h.d13 k hb e.symm)
 have n2:v2.ownBlock=none\/v2.ownBlock≠v3.ownBlock:=by cases hb:v2.ownBlock with | none=>exact .inl rfl | some k=>exact .inr (fun e=>h.d23 k hb e.symm)
 refine⟨f1,f2,f3,f4,f5,(h.r1.kept hg n1).setCell _ (by simp),(h.r2.kept hg n2).setCell _ (by simp),by rw [e];exact(Grows.push (xs:=g.macros.take k3) (by rw [t];exact hl) hr (by rw [t];exact ho) hR hvs).setCell _ (by simp),?_,?_,?_⟩
 ·exact h.d12
 ·intro k hk he;rcases hat with q | q
  ·exact h.d13 k hk (q.symm.trans he)
  ·have:=(h.r1.lt k hk).2;rw [q] at he;simp at he;omega
 ·intro k hk he;rcases hat with q | q
  ·exact h.d23 k hk (q.symm.trans he)
  ·have:=(h.r2.lt k hk).2;rw [q] at he;simp at he;omega
end
end Sg
namespace Sg
open Go.RowKit Dt
def NameIn (ns:List ByteArray) (k:Nat) (v:Value):Prop:=∃ x,x ∈ ns.take k/\v=.string x
theorem nameIn_zero (ns:List ByteArray) (v:Value):False ↔ NameIn ns 0 v:=by simp [NameIn]
theorem nameIn_succ {ns:List ByteArray} {k:Nat} {y:ByteArray} (h:ns[k]?=some y) (v:Value):(v=.string y\/NameIn ns k v) ↔ NameIn ns (k+1) v:=by
 unfold NameIn;rw [List.take_add_one,h]
 constructor
 ·rintro (rfl | ⟨x,hx,rfl⟩)
  ·exact⟨y,by simp,rfl⟩
  ·exact⟨x,by simp [hx],rfl⟩
 ·rintro ⟨x,hx,rfl⟩;rcases List.mem_append.1 hx with h1 | h1
  ·exact .inr ⟨x,h1,rfl⟩
  ·simp at h1;subst h1;exact .inl rfl
theorem nameIn_has {ns:List ByteArray} {k:Nat} {y:ByteArray}:NameIn ns k (.string y) ↔ hasB (ns.take k) y=true:=by
 rw [hasB_iff];unfold NameIn
 constructor
 ·rintro ⟨x,hx,e⟩;cases e;exact hx
 ·intro h;exact⟨y,h,rfl⟩
theorem Boxes.keeps {w w':World} {b:Nat} {u0 u1 u2 m1 m2 m3 m4 m5:Value} {S:Nat->Prop} (h:Boxes w b u0 u1 u2 m1 m2 m3 m4 m5) (hk:Keeps S w w') (h0:¬ S b) (h1:¬ S (b+1)):Boxes w' b u0 u1 u2 m1 m2 m3 m4 m5:=by
 have l0:b < w.heap.size:=by have:=h.lt;omega
 exact⟨Nat.lt_of_lt_of_le h.lt hk.size,(hk.cell l0 h0).trans h.u0,(hk.cell l0 h0).trans h.u1,(hk.cell l0 h0).trans h.u2,(hk.cell h.lt h1).trans h.m1,(hk.cell h.lt h1).trans h.m2,(hk.cell h.lt h1).trans h.m3,(hk.cell h.lt h1).trans h.m4,(hk.cell h.lt h1).trans h.m5⟩
theorem macro_any {w:World} {A1 A2 A3:Option Addr} {n1 c1 n2 c2 n3 c3:Nat} (hn:(n1:Int)<=140737488351232)
  {Ap Ab:Option Addr} {cp cb:Nat} (m:Macro) (hp:Lies 2 ParamR w Ap m.params) (hpl:m.params.length<=maxLen) (hx:SexpR w [.int .i8 m.body.kind,.string m.body.text,.slice Ab m.body.l.length cb] m.body) :
  Calls Tryz.prog 68 #[.agg #[.slice A1 n1 c1,.slice A2 n2 c2,.slice A3 n3 c3],.agg #[.string m.name,.slice Ap m.params.length cp,.int .i64 m.res,.int .i8 m.body.kind,.string m.body.text,.slice Ab m.body.l.length cb]] w fun e w'=>e=.returned (.bool (macroB n1 m))/\Below w.heap.size w w':=by
 have HTh:=kp (fun s W=>there_any A1 A2 A3 n1 c1 n2 c2 n3 c3 s W hn);have HSx:=kp (fun W (hW:Below w.heap.size w W)=>sxmay_any (SexpR.lasts _ _ _ _ hW hx));have HLp:=kp (fun W (hW:Below w.heap.size w W)=>hp.on ParamR.lasts hW);have HP:=kp (fun k p=>paramB_at (n:=n1) (ps:=m.params) (k:=k) (p:=p));have HPs:=kp (paramsTo_succ n1 m.params);have HPx:=kp (fun k hk h=>paramsTo_stop (n:=n1) (ps:=m.params) (k:=k) hk h);have HNm:=kp (fun k x=>map_at (l:=m.params) (nm:=Param.name) (k:=k) (x:=x));have HE:=kp (show macroB n1 m=(decide (m.params.length<=3) && thereB n1 m.res && m.body.may && paramsTo n1 m.params m.params.length) from rfl);have HZ:=kp (show paramsTo n1 m.params 0=true from rfl);clear hp hx;generalize macroB n1 m=mb at *;generalize paramsTo n1 m.params=pt at *;generalize paramB n1 m.params=pb at *;generalize m.params.map Param.name=ns at *;generalize m.body.may=bm' at *;generalize m.body.kind=bk at *;generalize m.body.text=bt at *;generalize m.body.l.length=bl at *;generalize m.params=ps at *;generalize m.res=res at *;generalize m.name=nm at *;have HPL:=kp hpl;have hpl2:(ps.length:Int)<=9223372036854775807:=by unfold maxLen at hpl;omega
 clear hpl;have B2:=kp (((brq w).alloc nlq (.cells #[.slice A1 n1 c1,.slice A2 n2 c2,.slice A3 n3 c3] 26)).alloc (by simp) (.cells #[.string nm,.slice Ap ps.length cp,.int .i64 res,.int .i8 bk,.string bt,.slice Ab bl cb] 58));have HX2:=kp (boxes_made w (.slice A1 n1 c1) (.slice A2 n2 c2) (.slice A3 n3 c3) (.string nm) (.slice Ap ps.length cp) (.int .i64 res) (.int .i8 bk) (.string bt) (.slice Ab bl cb) 26 58);have hmm:=@run_makeMap Tryz.prog
 go_enter Tryz.func68,Tryz.ntmps68
 go_wp2_with fail
 have hz2:((w.alloc (.cells #[.slice A1 n1 c1,.slice A2 n2 c2,.slice A3 n3 c3] 26)).alloc (.cells #[.string nm,.slice Ap ps.length cp,.int .i64 res,.int .i8 bk,.string bt,.slice Ab bl cb] 58)).heap.size=w.heap.size+1+1:=by simp
 generalize (w.alloc (.cells #[.slice A1 n1 c1,.slice A2 n2 c2,.slice A3 n3 c3] 26)).alloc (.cells #[.string nm,.slice Ap ps.length cp,.int .i64 res,.int .i8 bk,.string bt,.slice Ab bl cb] 58)=w2 at *
 have HMp:=kp (show BoolMap Tryz.prog 9 4 (w2.alloc (.map #[] 0)) (w.heap.size+1+1) 0 (NameIn ns 0) from by
  have:=BoolMap.made w2 Tryz.prog 9 4;rw [hz2] at this;exact this.imp (nameIn_zero ns))
 have B3:=kp (B2.out.alloc B2.out.size (.map #[] 0));have HX3:=kp (HX2.out.on ((brq w2).alloc nlq (.map #[] 0)));clear hz2 HX2 B2;generalize w2.alloc (.map #[] 0)=w3 at *;have hbm:w.heap.size+1 < w.heap.size+1+1:=by omega
 generalize w.heap.size+1+1=bm at *;clear hmm
 go_loopw [12] (fun v wr=>∃ k:Nat,k<=ps.length/\v=.int .i64 k/\pt k=true/\Keeps (·=bm) w3 wr/\BoolMap Tryz.prog 9 4 wr bm k (NameIn ns k)) (fun v _=>ps.length - (intOf v).toNat)
 case atStart=>exact⟨0,by omega,rfl,HZ.out,Keeps.refl _ _,HMp.out⟩
 case round =>
  obtain ⟨k,hk,rfl,hok,hkp,hmp⟩:=hrel;have HO:=kp hok;have HK:=kp hkp;have B5:=kp (B3.out.trans (hkp.below (B:=w.heap.size) (fun j e=>by omega) B3.out.size));have HX5:=kp (HX3.out.keeps hkp (by show ¬ (w.heap.size=bm);omega) (by show ¬ (w.heap.size+1=bm);omega));have HM5:=kp hmp;clear hok hkp hmp HMp
  by_cases hlt:k < ps.length
  ·have hlt2:(k:Int) < (ps.length:Int):=by omega
   have hx:=gqe hlt;generalize ps[k]=p at hx;have HL5:=kp (HLp.out wr B5.out);obtain ⟨b,o,vs,rfl,hbl,_,hcell,hr⟩:=HL5.out.at' hx;obtain ⟨rfl,hps,hpi⟩:=hr;have c0:=hcell 0 _ rfl;have c1:=hcell 1 _ rfl;rw [Nat.add_zero] at c0;have HPk:=kp (HP.out k p hx);have HNk:=kp (HNm.out k p hx);clear hx hcell;generalize p.name=y at *;generalize p.sort=sr at *;obtain ⟨hz5,x0,x1,x2,y1,y2,y3,y4,y5⟩:=HX5.out;have BA:=kp ((brq wr).alloc nlq (.cells #[.string y,.int .i64 sr] 119));have HM6:=kp (HM5.out.alloc (.cells #[.string y,.int .i64 sr] 119));obtain ⟨c,hlk,hcS⟩:=HM6.out.look string_key Tryz.underlying176 Tryz.underlying4 zero_bool (keyOf_str hps);have z6:wr.heap.size < (wr.alloc (.cells #[.string y,.int .i64 sr] 119)).heap.size:=by simp
   have q0:(wr.alloc (.cells #[.string y,.int .i64 sr] 119)).cell? ⟨wr.heap.size,0,none⟩=some (.string y):=by rw [World.cell?_alloc_mark];rfl
   have q1:(wr.alloc (.cells #[.string y,.int .i64 sr] 119)).cell? ⟨wr.heap.size,1,none⟩=some (.int .i64 sr):=by rw [World.cell?_alloc_mark];rfl
   rw [nameIn_has] at hcS;have HC:=kp hcS;clear hcS;generalize hw6:wr.alloc (.cells #[.string y,.int .i64 sr] 119)=w6 at *;have B6:=kp (B5.out.trans (BA.out.mono B5.out.size));have K6:=kp (HK.out.trans_same (Keeps.of_below BA.out _));have HX6:=kp (HX5.out.on BA.out);have HU:=kp (usable_any y w6 hps);have HPu:=kp (show pb k=(usableB (Lx.bs y) && thereB n1 sr && !hasB (List.take k ns) y) from HPk.out);clear HX5 hz5 HPk
   cases c with
   | true =>
    have HR:=kp (show mb=false by rw [HE.out];simp [HPx.out k hlt (by rw [HPu.out,HC.out.1 rfl];simp)]);go_wp2_with fail
    go_ret;exact⟨ret_bool HR.out.symm,B6.out⟩
   | false =>
    have HNo:=kp (show hasB (List.take k ns) y=false by cases hh:hasB (List.take k ns) y with | false=>rfl | true=>exact absurd (HC.out.2 hh) (by simp));replace HPu:=kp (show pb k=(usableB (Lx.bs y) && thereB n1 sr) by rw [HPu.out,HNo.out];simp);go_wp2_with fail
    clear hw6 x0 x1 x2 y1 y2 y3 y4 y5 c0 c1;generalize usableB (Lx.bs y)=bu at *
    cases bu with
    | false =>
     have HR:=kp (show mb=false by rw [HE.out];simp [HPx.out k hlt (by rw [HPu.out];rfl)]);refine HU.out.mono ?_;rintro e w7 ⟨rfl,rfl⟩;go_wp2_with fail
     go_ret;exact⟨ret_bool HR.out.symm,B6.out⟩
    | true =>
     refine HU.out.mono ?_;rintro e w7 ⟨rfl,rfl⟩;obtain ⟨hz6,x0,x1,x2,y1,y2,y3,y4,y5⟩:=HX6.out;have hcall:=HTh.out sr w6;go_wp2_with fail
     clear x0 x1 x2 y1 y2 y3 y4 y5
     cases ht:thereB n1 sr with
     | false =>
      have HR:=kp (show mb=false by rw [HE.out];simp [HPx.out k hlt (by rw [HPu.out,ht];rfl)]);rw [ht] at hcall;clear ht;refine hcall.mono ?_;rintro e w7 ⟨rfl,hb⟩;have B7:=kp (B6.out.trans (hb.mono B6.out.size));clear hb;go_wp2_with fail
      go_ret;exact⟨ret_bool HR.out.symm,B7.out⟩
     | true =>
      have HR:=kp (show pt (k+1)=true by rw [HPs.out,HO.out,HPu.out,ht];rfl);rw [ht] at hcall;clear ht;refine hcall.mono ?_;rintro e w7 ⟨rfl,hb⟩;have K7:=kp (K6.out.trans_same (Keeps.of_below hb _));have HM7:=kp (HM6.out.below hb);have r0:=((bcell hb).1 wr.heap.size 0 z6).trans q0;obtain ⟨w8,hup,hm8,hg8⟩:=HM7.out.store string_key Tryz.underlying176 Tryz.underlying4 (by have:=HPL.out;omega) (keyOf_str hps);have HM8:=kp (hm8.imp (nameIn_succ HNk.out));have K8:=kp (K7.out.grown hg8 (fun j hj=>by left;simpa using hj.symm));clear hb hm8 hg8 q0 q1 hcall hlk;go_wp2_with fail
      go_roundw
      case rel=>exact⟨k+1,by omega,by go_num,HR.out,K8.out,HM8.out⟩
      case measure=>simp [intOf];omega
  ·obtain rfl:k=ps.length:=by omega
   obtain ⟨hz5,x0,x1,x2,y1,y2,y3,y4,y5⟩:=HX5.out
   by_cases h3:(ps.length:Int)<=3
   ·have h3':decide ((ps.length:Int)<=3)=true:=decide_eq_true h3;replace HE:=kp (show mb=(thereB n1 res && bm') by rw [HE.out,HO.out,decide_eq_true (show ps.length<=3 by omega)];simp);have hcall:=HTh.out res wr;go_wp2_with fail
    clear x0 x1 x2 y1 y2 y3 y4 y5
    cases ht:thereB n1 res with
    | false =>
     replace HE:=kp (show mb=false by rw [HE.out,ht];rfl);rw [ht] at hcall;clear ht;refine hcall.mono ?_;rintro e w7 ⟨rfl,hb⟩;have B7:=kp (B5.out.trans (hb.mono B5.out.size));clear hb;go_wp2_with fail
     go_ret;exact⟨ret_bool HE.out.symm,B7.out⟩
    | true =>
     replace HE:=kp (show mb=bm' by rw [HE.out,ht];rfl);rw [ht] at hcall;clear ht;refine hcall.mono ?_;rintro e w7 ⟨rfl,hb⟩;have B7:=kp (B5.out.trans (hb.mono B5.out.size));obtain ⟨hz7,x0,x1,x2,y1,y2,y3,y4,y5⟩:=HX5.out.on hb;clear hb hcall;have hcall:=HSx.out w7 B7.out;go_wp2_with fail
     refine hcall.mono ?_;rintro e w8 ⟨rfl,hb⟩;have B8:=kp (B7.out.trans (hb.mono B7.out.size));clear hb;go_wp2_with fail
     go_ret;exact⟨ret_bool HE.out.symm,B8.out⟩
   ·have h3':decide ((ps.length:Int)<=3)=false:=dfq h3;replace HE:=kp (show mb=false by rw [HE.out,dfq (show ¬ ps.length<=3 by omega)];rfl);go_wp2_with fail
    go_ret;exact⟨ret_bool HE.out.symm,B5.out⟩
end Sg
namespace El
open Go.RowKit Dt Sg
def bytesN (l:List UInt8):ByteArray:=⟨l.toArray⟩
def posX (n:Int):Sexp:=.mk 1 (bytesN (Lib.itoa n)) []
def symT (s:ByteArray):Sexp:=.mk 0 s []
def listT (l:List Sexp):Sexp:=.mk 3 { data:=#[] } l
def numX (n:Int):Sexp:=if n < 0 then listT [symT sMinus,posX (-n)] else posX n
def nodeAt (t:List Node) (id:Int):Node:=t.getD id.toNat nodeTrue
def argsOf (n:Node):List Int:=[n.a0,n.a1,n.a2].take n.len.toNat
def opName (op:Int):ByteArray :=
 if op=1 then sNot else if op=2 then sAnd else if op=3 then sOr else if op=4 then sXor else if op=5 then sImp else if op=6 then sEq else if op=7 then sIte else if op=8 then sLe else sLt
def funName (g:Sig) (k:Int):ByteArray:=(g.funs[k.toNat]?.map Fun4.name).getD { data:=#[] }
def exprN (g:Sig) (n:Node) (xs:List Sexp):Sexp :=
 if n.op=0 then symT sTrue
 else if n.op=10 then numX n.n
 else if n.op=11 then(if n.n < 0 then listT (symT sMinus :: (xs ++ [posX (-n.n)])) else listT (symT sPlus :: (xs ++ [posX n.n])))
 else if n.op=12 then listT [symT sLe,listT (symT sMinus :: xs),numX n.n]
 else if n.op=13 then(if n.len=0 then symT (funName g n.fn) else listT (symT (funName g n.fn) :: xs))
 else listT (symT (opName n.op) :: xs)
def exprF (g:Sig) (t:List Node):Nat->Int->Sexp
 | 0,_=>symT sTrue
 | f+1,id=>exprN g (nodeAt t id) ((argsOf (nodeAt t id)).map (exprF g t f))
def exprX (g:Sig) (t:List Node) (id:Int):Sexp:=exprF g t (id.toNat+1) id
def Ahead (t:List Node):Prop:=∀ (k:Nat) n,t[k]?=some n->∀ a ∈ argsOf n,0<=a/\a < k
theorem nodeAt_get {t:List Node} {k:Nat} {n:Node} (h:t[k]?=some n):nodeAt t k=n:=by
 unfold nodeAt;rw [List.getD_eq_getElem?_getD];simp [h]
theorem exprF_more {g:Sig} {t:List Node} (ha:Ahead t):∀ (f1 f2:Nat) (id:Int),id.toNat < t.length->id.toNat < f1->id.toNat < f2->exprF g t f1 id=exprF g t f2 id
 | 0,_,_,_,h,_=>by omega
 | _+1,0,_,_,_,h=>by omega
 | f1+1,f2+1,id,hl,h1,h2=>by
  unfold exprF
  congr 1
  refine List.map_congr_left fun a hm=>?_;obtain ⟨n,hn⟩:∃ n,t[id.toNat]?=some n:=⟨_,gqe hl⟩;have hnn:nodeAt t id=n:=by unfold nodeAt;rw [List.getD_eq_getElem?_getD,hn];rfl
  rw [hnn] at hm;have hb:=ha _ n hn a hm;exact exprF_more ha f1 f2 a (by omega) (by omega) (by omega)
theorem exprX_eq {g:Sig} {t:List Node} (ha:Ahead t) {k:Nat} {n:Node} (h:t[k]?=some n):exprX g t k=exprN g n ((argsOf n).map (exprX g t)):=by
 have hk:=(gqs h).1;unfold exprX;show exprF g t (k+1) (k:Int)=_;unfold exprF;rw [nodeAt_get h]
 congr 1
 refine List.map_congr_left fun a hm=>?_;have hb:=ha k n h a hm;exact exprF_more ha k (a.toNat+1) a (by omega) (by omega) (by omega)
def treeStep (l:List Int) (n:Node):Int:=min ((((argsOf n).map fun a=>l.getD a.toNat 0).foldl (·+·) 0)+1) 1073741824
def trees (t:List Node):Nat->List Int
 | 0=>[]
 | k+1=>trees t k ++ [treeStep (trees t k) (nodeAt t k)]
def treeN (t:List Node) (id:Int):Int:=(trees t t.length).getD id.toNat 0
theorem trees_succ (t:List Node) (k:Nat):trees t (k+1)=trees t k ++ [treeStep (trees t k) (nodeAt t k)]:=rfl
theorem trees_len (t:List Node):∀ k,(trees t k).length=k
 | 0=>rfl
 | k+1=>by rw [trees_succ,List.length_append,trees_len t k];rfl
theorem trees_get (t:List Node) {k:Nat}:∀ {m:Nat},k < m->(trees t m)[k]?=some (treeStep (trees t k) (nodeAt t k))
 | 0,h=>by omega
 | m+1,h=>by
  rw [trees_succ]
  by_cases hk:k < m
  ·rw [List.getElem?_append_left (by rw [trees_len];exact hk)];exact trees_get t hk
  ·obtain rfl:k=m:=by omega
   rw [List.getElem?_append_right (by rw [trees_len];exact nlq),trees_len];simp
theorem trees_at (t:List Node) {k m:Nat} (hk:k < m):(trees t m).getD k 0=treeStep (trees t k) (nodeAt t k):=by
 rw [List.getD_eq_getElem?_getD,trees_get t hk]
 rfl
def argSum (l ys:List Int):Int:=(ys.map fun a=>l.getD a.toNat 0).foldl (·+·) 0
theorem argSum_snoc (l ys:List Int) (a:Int):argSum l (ys ++ [a])=argSum l ys+l.getD a.toNat 0:=by
 unfold argSum;rw [List.map_append,List.foldl_append]
 rfl
theorem argSum_next {l ys:List Int} {m:Nat} {a:Int} (h:ys[m]?=some a):argSum l (ys.take (m+1))=argSum l (ys.take m)+l.getD a.toNat 0:=by
 rw [List.take_add_one,h];exact argSum_snoc _ _ _
theorem treeStep_eq (l:List Int) (n:Node):treeStep l n=min (argSum l (argsOf n)+1) 1073741824:=rfl
theorem argsOf_len (n:Node):(argsOf n).length=min n.len.toNat 3:=by
 unfold argsOf;rw [List.length_take]
 rfl
theorem argsOf_get {n:Node} {m:Nat} (h:m < (argsOf n).length):(argsOf n)[m]?=some (n.arg m):=by
 have h2:=h;rw [argsOf_len] at h2;unfold argsOf;rw [List.getElem?_take,if_pos (by omega)];have hm:m=0\/m=1\/m=2:=by omega
 rcases hm with rfl | rfl | rfl <;> rfl
theorem foldl_from:∀ (l:List Int) (s:Int),l.foldl (·+·) s=s+l.foldl (·+·) 0
 | [],s=>by simp
 | x :: l,s=>by
  simp only [List.foldl_cons];rw [foldl_from l (s+x),foldl_from l (0+x)]
  omega
theorem argSum_cons (l ys:List Int) (a:Int):argSum l (a :: ys)=l.getD a.toNat 0+argSum l ys:=by
 unfold argSum;rw [List.map_cons,List.foldl_cons,foldl_from]
 omega
theorem argSum_in {l:List Int} (h:∀ x ∈ l,0<=x/\x<=1073741824):∀ ys:List Int,0<=argSum l ys/\argSum l ys<=1073741824 * ys.length
 | []=>⟨Int.le_refl _,Int.le_refl _⟩
 | a :: ys=>by
  have ih:=argSum_in h ys
  have:0<=l.getD a.toNat 0/\l.getD a.toNat 0<=1073741824:=by
   rw [List.getD_eq_getElem?_getD]
   cases hx:l[a.toNat]? with
   | none=>exact⟨Int.le_refl _,by decide⟩
   | some x=>exact h x (mgq hx)
  rw [argSum_cons,List.length_cons]
  omega
theorem trees_le (t:List Node):∀ (m:Nat),∀ x ∈ trees t m,0<=x/\x<=1073741824
 | 0,_,h=>by cases h
 | m+1,x,h=>by
  rw [trees_succ] at h;rcases List.mem_append.1 h with h | h
  ·exact trees_le t m x h
  ·obtain rfl:x=treeStep (trees t m) (nodeAt t m):=by simpa using h
   have:=argSum_in (trees_le t m) (argsOf (nodeAt t m));rw [treeStep_eq]
   omega
theorem argSum_le (t:List Node) (m:Nat) (ys:List Int):0<=argSum (trees t m) ys/\argSum (trees t m) ys<=1073741824 * ys.length:=argSum_in (trees_le t m) ys
theorem treeN_at {t:List Node} {k:Nat} (hk:k < t.length):(trees t t.length)[k]?=some (treeN t k):=by
 unfold treeN;rw [show((k:Int)).toNat=k from rfl,List.getD_eq_getElem?_getD,trees_get t hk]
 rfl
end El
end Go.Proofs.YtpmdcckapddchaaGreatDoor
