import Derived.Test.YtpmdcckapddchaaGreatShort
import Derived.Test.YtpmdcckapddchaaGreatMzl
import Derived.Test.YtpmdcckapddchaaGreatRows
import Derived.Test.YtpmdcckapddchaaGreatMb
/- merged by wip/merge.py from: Law7Macros ElabMacrosCard -/
/- ElabMacros: a call of a macro is the let that stands for it. Printed by wip/gen_law7macros.py. -/
namespace Go.Proofs.YtpmdcckapddchaaGreat.El
open Go.RowKit Go.Proofs.YtpmdcckapddchaaGreat.Dt Go.Proofs.YtpmdcckapddchaaGreat.Sg
set_option maxRecDepth 100000 in
set_option maxHeartbeats 51200000 in
theorem macros_all {w:World} {A1 A2 A3:Option Addr} {c1 c2 c3:Nat} {g:Sig} (h:SigAt w A1 c1 A2 c2 A3 c3 g) {A A':Option Addr} {c d:Nat} {x y:Sexp} (hx:XAt w A c x) (hy:XAt w A' d y) (hT:∀ m ∈ g.macros,m.body.full+sumOf (fun p:Param=>p.name.size) m.params+x.full+y.full≤1048576) (hP:∀ m ∈ g.macros,m.params.length≤1000000) (hf:x.full≤1048576) (hf':y.full≤1048576) :
  Calls Tryz.prog 6 #[.agg #[.slice A1 g.sorts.length c1,.slice A2 g.funs.length c2,.slice A3 g.macros.length c3],.agg #[.int .i8 x.kind,.string x.text,.slice A x.l.length c],.agg #[.int .i8 y.kind,.string y.text,.slice A' y.l.length d]] w fun e w'=>e=.returned (.bool true)∧Below w.heap.size w w':=by
 have B2:=kp ((((Below.refl w.heap.size w).alloc (Nat.le_refl _) (.cells #[.slice A1 g.sorts.length c1,.slice A2 g.funs.length c2,.slice A3 g.macros.length c3] 26)).alloc (by simp) (.cells #[.int .i8 x.kind,.string x.text,.slice A x.l.length c] 30)).alloc (by simp;omega) (.cells #[.int .i8 y.kind,.string y.text,.slice A' y.l.length d] 30));have G2:=kp (Bk.keep (Bk.keep (Bk.new w (.cells #[.slice A1 g.sorts.length c1,.slice A2 g.funs.length c2,.slice A3 g.macros.length c3] 26)) (.cells #[.int .i8 x.kind,.string x.text,.slice A x.l.length c] 30)) (.cells #[.int .i8 y.kind,.string y.text,.slice A' y.l.length d] 30));have X2:=kp (Bk.keep (show((w.alloc (.cells #[.slice A1 g.sorts.length c1,.slice A2 g.funs.length c2,.slice A3 g.macros.length c3] 26)).alloc (.cells #[.int .i8 x.kind,.string x.text,.slice A x.l.length c] 30)).heap[w.heap.size+1]?=some (.cells #[.int .i8 x.kind,.string x.text,.slice A x.l.length c] 30 (0,0)) by have h:=Bk.new (w.alloc (.cells #[.slice A1 g.sorts.length c1,.slice A2 g.funs.length c2,.slice A3 g.macros.length c3] 26)) (.cells #[.int .i8 x.kind,.string x.text,.slice A x.l.length c] 30);simpa using h) (.cells #[.int .i8 y.kind,.string y.text,.slice A' y.l.length d] 30));have Y2:=kp (show(((w.alloc (.cells #[.slice A1 g.sorts.length c1,.slice A2 g.funs.length c2,.slice A3 g.macros.length c3] 26)).alloc (.cells #[.int .i8 x.kind,.string x.text,.slice A x.l.length c] 30)).alloc (.cells #[.int .i8 y.kind,.string y.text,.slice A' y.l.length d] 30)).heap[w.heap.size+1+1]?=some (.cells #[.int .i8 y.kind,.string y.text,.slice A' y.l.length d] 30 (0,0)) by have h:=Bk.new ((w.alloc (.cells #[.slice A1 g.sorts.length c1,.slice A2 g.funs.length c2,.slice A3 g.macros.length c3] 26)).alloc (.cells #[.int .i8 x.kind,.string x.text,.slice A x.l.length c] 30)) (.cells #[.int .i8 y.kind,.string y.text,.slice A' y.l.length d] 30);simpa using h)
 have SG2:=kp (h.on B2.out);have XA2:=kp (hx.on B2.out);have YA2:=kp (hy.on B2.out);have HWk:=kp wakes_any;have HG3x:=kp (fun W (h:XAt W A c x)=>great3_any h (by omega));have HG3y:=kp (fun W (h:XAt W A' d y)=>great3_any h (by omega));have HG4:=kp (fun W (h:SigAt W A1 c1 A2 c2 A3 c3 g)=>Gr.great4_any h);have HMt:=kp hT;have HFx:=kp hf;have HFy:=kp hf';have HPx:=kp hP;clear h hx hy hT hf hf' hP
 go_enter Tryz.func6,Tryz.ntmps6
 go_upto_region 1 with fail
 generalize ((w.alloc (.cells #[.slice A1 g.sorts.length c1,.slice A2 g.funs.length c2,.slice A3 g.macros.length c3] 26)).alloc (.cells #[.int .i8 x.kind,.string x.text,.slice A x.l.length c] 30)).alloc (.cells #[.int .i8 y.kind,.string y.text,.slice A' y.l.length d] 30)=w2 at *;obtain ⟨x0,x1,x2,xf⟩:=Bk.c3 X2.out;go_wp2_with fail
 refine(HG3x.out _ XA2.out).mono ?_;rintro e w3 ⟨⟨b1,rfl,hb1⟩,hb3⟩;have B3:=kp (B2.out.trans (hb3.mono B2.out.size));have G3:=kp (Bk.on G2.out hb3);have X3:=kp (Bk.on X2.out hb3);have Y3:=kp (Bk.on Y2.out hb3);have SG3:=kp (SG2.out.on hb3);have XA3:=kp (XA2.out.on hb3);have YA3:=kp (YA2.out.on hb3);clear hb3 B2 G2 X2 Y2 SG2 XA2 YA2 hb1 x0 x1 x2 xf
 cases b1 with
 | true =>
  go_wp2_with fail
  refine(HWk.out _).mono ?_;rintro e w4 ⟨rfl,hbw⟩;have BW:=kp (B3.out.trans (hbw.mono B3.out.size));clear hbw;go_wp2_with fail
  go_ret;exact⟨rfl,BW.out⟩
 | false =>
  obtain ⟨y0,y1,y2,yf⟩:=Bk.c3 Y3.out;go_wp2_with fail
  refine(HG3y.out _ YA3.out).mono ?_;rintro e w4 ⟨⟨b2,rfl,hb2⟩,hb4⟩;have B4:=kp (B3.out.trans (hb4.mono B3.out.size));have G4:=kp (Bk.on G3.out hb4);have X4:=kp (Bk.on X3.out hb4);have Y4:=kp (Bk.on Y3.out hb4);have SG4:=kp (SG3.out.on hb4);have XA4:=kp (XA3.out.on hb4);have YA4:=kp (YA3.out.on hb4);clear hb4 B3 G3 X3 Y3 SG3 XA3 YA3 hb2 y0 y1 y2 yf
  cases b2 with
  | true =>
   go_wp2_with fail
   refine(HWk.out _).mono ?_;rintro e w5 ⟨rfl,hbw⟩;have BW:=kp (B4.out.trans (hbw.mono B4.out.size));clear hbw;go_wp2_with fail
   go_ret;exact⟨rfl,BW.out⟩
  | false =>
   obtain ⟨g0,g1,g2,gf⟩:=Bk.c3 G4.out;go_wp2_with fail
   refine(HG4.out _ SG4.out).mono ?_;rintro e w5 ⟨⟨b3,rfl,hb3⟩,hb5⟩;have HSm:=kp hb3;have B5:=kp (B4.out.trans (hb5.mono B4.out.size));have G5:=kp (Bk.on G4.out hb5);have X5:=kp (Bk.on X4.out hb5);have Y5:=kp (Bk.on Y4.out hb5);have SG5:=kp (SG4.out.on hb5);have XA5:=kp (XA4.out.on hb5);have YA5:=kp (YA4.out.on hb5);clear hb5 B4 G4 X4 Y4 SG4 XA4 YA4 hb3 g0 g1 g2 gf
   cases b3 with
   | true =>
    go_wp2_with fail
    refine(HWk.out _).mono ?_;rintro e w6 ⟨rfl,hbw⟩;have BW:=kp (B5.out.trans (hbw.mono B5.out.size));clear hbw;go_wp2_with fail
    go_ret;exact⟨rfl,BW.out⟩
   | false =>
    have HSm2:=kp (HSm.out rfl);have HS4:=kp (show g.sorts.length≤1000000∧g.funs.length≤1000000∧g.macros.length≤1000000 from⟨by have:=HSm2.out.1;omega,by have:=HSm2.out.2.1;omega,by have:=HSm2.out.2.2;omega⟩);have HMm:=kp (show ∀ m ∈ g.macros,m.body.full≤3000000 from fun m hm=>by have:=HMt.out m hm;omega);have HMa:=kp (show ∀ W,SigAt W A1 c1 A2 c2 A3 c3 g→Calls Tryz.prog 21 #[.agg #[.slice A1 g.sorts.length c1,.slice A2 g.funs.length c2,.slice A3 g.macros.length c3],.string { data:=#[109,97,99] }] W fun e w'=>e=.returned (.tuple #[.int .i64 (findAt (g.macros.map Macro.name) sMac:Nat),.bool (hasB (g.macros.map Macro.name) sMac)])∧Below W.heap.size W w' from fun W hW=>rmacroat_any (A1:=A1) (A2:=A2) (n1:=g.sorts.length) (c1:=c1) (n2:=g.funs.length) (c2:=c2) (c:=c3) MacroR.lasts Sg.macro_name hW.macros (by have:=HS4.out.2.2;omega) sMac);have HLf:=kp (fun W (h:SigAt W A1 c1 A2 c2 A3 c3 g)=>lfits_any h HS4.out.1 HS4.out.2.1 HS4.out.2.2 HMm.out HPx.out);have HSox:=kp (show ∀ W,SigAt W A1 c1 A2 c2 A3 c3 g→XAt W A c x→Calls Tryz.prog 18 #[.agg #[.slice A1 g.sorts.length c1,.slice A2 g.funs.length c2,.slice A3 g.macros.length c3],.slice none 0 0,.agg #[.int .i8 x.kind,.string x.text,.slice A x.l.length c]] W fun e w'=>e=.returned (.tuple #[.int .i64 (sortO g [] x).1,.int .i64 (sortO g [] x).2])∧Below W.heap.size W w' from fun W h hx=>sort_any (vars:=[]) (Av:=none) h HS4.out.1 HS4.out.2.1 HS4.out.2.2 HMm.out 0 (.inl rfl) (by decide) hx (by have:=HFx.out;omega))
    have HSoy:=kp (show ∀ W,SigAt W A1 c1 A2 c2 A3 c3 g→XAt W A' d y→Calls Tryz.prog 18 #[.agg #[.slice A1 g.sorts.length c1,.slice A2 g.funs.length c2,.slice A3 g.macros.length c3],.slice none 0 0,.agg #[.int .i8 y.kind,.string y.text,.slice A' y.l.length d]] W fun e w'=>e=.returned (.tuple #[.int .i64 (sortO g [] y).1,.int .i64 (sortO g [] y).2])∧Below W.heap.size W w' from fun W h hx=>sort_any (vars:=[]) (Av:=none) h HS4.out.1 HS4.out.2.1 HS4.out.2.2 HMm.out 0 (.inl rfl) (by decide) hx (by have:=HFy.out;omega));have HLw:=kp (fun k m p0 p1 hm hp hh hk hf ha hb qa qb mc ml=>macros_law (g:=g) (k:=k) (m:=m) (p0:=p0) (p1:=p1) (a:=x) (b:=y) hf hm hp hh hk ha hb qa qb mc ml);have HTk:=kp (fun k m (hm:g.macros[k]?=some m)=>HMt.out m (List.mem_of_getElem? hm));have HGt:=kp (fun(h:hasB (g.macros.map Macro.name) sMac=true)=>has_get h);clear HSm HSm2 HG3x HG3y HG4;obtain ⟨g0,g1,g2,gf⟩:=Bk.c3 G5.out;go_wp2_with fail
    refine(HMa.out _ SG5.out).mono ?_;rintro e w6 ⟨rfl,hb6⟩;have B6:=kp (B5.out.trans (hb6.mono B5.out.size));have G6:=kp (Bk.on G5.out hb6);have X6:=kp (Bk.on X5.out hb6);have Y6:=kp (Bk.on Y5.out hb6);have SG6:=kp (SG5.out.on hb6);have XA6:=kp (XA5.out.on hb6);have YA6:=kp (YA5.out.on hb6);clear hb6 B5 G5 X5 Y5 SG5 XA5 YA5 g0 g1 g2 gf HMa
    cases hhas:hasB (g.macros.map Macro.name) sMac with
    | false =>
     go_wp2_with fail
     refine(HWk.out _).mono ?_;rintro e w7 ⟨rfl,hbw⟩;have BW:=kp (B6.out.trans (hbw.mono B6.out.size));clear hbw;go_wp2_with fail
     go_ret;exact⟨rfl,BW.out⟩
    | true =>
     obtain ⟨m,hm⟩:=HGt.out hhas;generalize hkf:findAt (g.macros.map Macro.name) sMac=k at *;have hkl:=(List.getElem?_eq_some_iff.1 hm).1;have HLw2:=kp (fun p0 p1 hp=>HLw.out k m p0 p1 hm hp hhas rfl);have HTm:=kp (HTk.out k m hm);obtain ⟨b,ob,Ap,cp,Ab,cb,hA,hbl,⟨q0,q1,q2,q3,q4,q5⟩,hps,hxb⟩:=mac_cells SG6.out.macros hm;subst hA;have PL6:=kp hps;have BA6:=kp hxb;have l1:(0:Int)≤(k:Int):=by omega
     have l2:(k:Int) < (g.macros.length:Int):=by omega
     have HMk:=kp (fun(W:World) (hW:Below w6.heap.size w6 W)=>show(W.cell? ⟨b,ob+k * 6,none⟩=some (.string m.name)∧W.cell? ⟨b,ob+k * 6+1,none⟩=some (.slice Ap m.params.length cp)∧W.cell? ⟨b,ob+k * 6+2,none⟩=some (.int .i64 m.res)∧W.cell? ⟨b,ob+k * 6+3,none⟩=some (.int .i8 m.body.kind)∧W.cell? ⟨b,ob+k * 6+4,none⟩=some (.string m.body.text)∧W.cell? ⟨b,ob+k * 6+5,none⟩=some (.slice Ab m.body.l.length cb)) from⟨((bcell hW).1 b _ hbl).trans q0,((bcell hW).1 b _ hbl).trans q1,((bcell hW).1 b _ hbl).trans q2,((bcell hW).1 b _ hbl).trans q3,((bcell hW).1 b _ hbl).trans q4,((bcell hW).1 b _ hbl).trans q5⟩);obtain ⟨g0,g1,g2,gf⟩:=Bk.c3 G6.out;clear hhas hkf hm hps hxb hkl HLw HTk HGt
     cases hpl:decide (m.params.length=2) with
     | false =>
      have hpl2:=of_decide_eq_false hpl;have n1:((m.params.length:Int) != 2)=true:=by simp;omega
      clear hpl hpl2;go_wp2_with fail
      refine(HWk.out _).mono ?_;rintro e w7 ⟨rfl,hbw⟩;have BW:=kp (B6.out.trans (hbw.mono B6.out.size));clear hbw;go_wp2_with fail
      go_ret;exact⟨rfl,BW.out⟩
     | true =>
      obtain ⟨p0,p1,hp⟩:=two_params (of_decide_eq_true hpl);have n1:((m.params.length:Int) != 2)=false:=by rw [hp];rfl
      have HPp:=kp hp;have HLw3:=kp (HLw2.out p0 p1 hp);have HNm:=kp (names_le hp);clear hpl HLw2 hp;go_wp2_with fail
      refine(HLf.out _ SG6.out).mono ?_;rintro e w7 ⟨rfl,hb7⟩;have HMk7:=kp (HMk.out _ hb7);have B7:=kp (B6.out.trans (hb7.mono B6.out.size));have G7:=kp (Bk.on G6.out hb7);have X7:=kp (Bk.on X6.out hb7);have Y7:=kp (Bk.on Y6.out hb7);have SG7:=kp (SG6.out.on hb7);have XA7:=kp (XA6.out.on hb7);have YA7:=kp (YA6.out.on hb7);have BA7:=kp (BA6.out.on hb7);have PL7:=kp (PL6.out.on ParamR.lasts hb7);clear hb7 B6 G6 X6 Y6 SG6 XA6 YA6 BA6 PL6 q0 q1 q2 q3 q4 q5 g0 g1 g2 gf HMk HLf n1
      cases hfb:fitsB g with
      | false =>
       clear HMk7;go_wp2_with fail
       refine(HWk.out _).mono ?_;rintro e w8 ⟨rfl,hbw⟩;have BW:=kp (B7.out.trans (hbw.mono B7.out.size));clear hbw;go_wp2_with fail
       go_ret;exact⟨rfl,BW.out⟩
      | true =>
       have HLw4:=kp (HLw3.out hfb);clear hfb HLw3;obtain ⟨q0,q1,q2,q3,q4,q5⟩:=HMk7.out;obtain ⟨g0,g1,g2,gf⟩:=Bk.c3 G7.out;have hb8:=(Below.refl w7.heap.size w7).alloc (Nat.le_refl _) (.cells #[.string m.name,.slice Ap m.params.length cp,.int .i64 m.res,.int .i8 m.body.kind,.string m.body.text,.slice Ab m.body.l.length cb] 47);have M8:=kp (Bk.new w7 (.cells #[.string m.name,.slice Ap m.params.length cp,.int .i64 m.res,.int .i8 m.body.kind,.string m.body.text,.slice Ab m.body.l.length cb] 47));have E8:=kp (show w7.heap.size=w7.heap.size from rfl);have Z8:=kp (B7.out.size);have B8:=kp (B7.out.trans (hb8.mono B7.out.size));have G8:=kp (Bk.on G7.out hb8);have X8:=kp (Bk.on X7.out hb8);have Y8:=kp (Bk.on Y7.out hb8);have SG8:=kp (SG7.out.on hb8);have XA8:=kp (XA7.out.on hb8);have YA8:=kp (YA7.out.on hb8);have BA8:=kp (BA7.out.on hb8);have PL8:=kp (PL7.out.on ParamR.lasts hb8);clear hb8 B7 G7 X7 Y7 SG7 XA7 YA7 BA7 PL7 HMk7 E8;go_upto_region 7 with fail
       generalize w7.alloc (.cells #[.string m.name,.slice Ap m.params.length cp,.int .i64 m.res,.int .i8 m.body.kind,.string m.body.text,.slice Ab m.body.l.length cb] 47)=w8 at *;generalize w7.heap.size=mb at *;clear q0 q1 q2 q3 q4 q5 g0 g1 g2 gf;obtain ⟨g0,g1,g2,gf⟩:=Bk.c3 G8.out;obtain ⟨x0,x1,x2,xf⟩:=Bk.c3 X8.out;go_wp2_with fail
       refine(HSox.out _ SG8.out XA8.out).mono ?_;rintro e w9 ⟨rfl,hb9⟩;have B9:=kp (B8.out.trans (hb9.mono B8.out.size));have G9:=kp (Bk.on G8.out hb9);have X9:=kp (Bk.on X8.out hb9);have Y9:=kp (Bk.on Y8.out hb9);have M9:=kp (Bk.on M8.out hb9);have SG9:=kp (SG8.out.on hb9);have XA9:=kp (XA8.out.on hb9);have YA9:=kp (YA8.out.on hb9);have BA9:=kp (BA8.out.on hb9);have PL9:=kp (PL8.out.on ParamR.lasts hb9);clear hb9 B8 G8 X8 Y8 M8 SG8 XA8 YA8 BA8 PL8 g0 g1 g2 gf x0 x1 x2 xf HSox;obtain ⟨g0,g1,g2,gf⟩:=Bk.c3 G9.out;obtain ⟨x0,x1,x2,xf⟩:=Bk.c3 Y9.out;go_wp2_with fail
       refine(HSoy.out _ SG9.out YA9.out).mono ?_;rintro e w10 ⟨rfl,hb10⟩;have B10:=kp (B9.out.trans (hb10.mono B9.out.size));have G10:=kp (Bk.on G9.out hb10);have X10:=kp (Bk.on X9.out hb10);have Y10:=kp (Bk.on Y9.out hb10);have M10:=kp (Bk.on M9.out hb10);have SG10:=kp (SG9.out.on hb10);have XA10:=kp (XA9.out.on hb10);have YA10:=kp (YA9.out.on hb10);have BA10:=kp (BA9.out.on hb10);have PL10:=kp (PL9.out.on ParamR.lasts hb10);clear hb10 B9 G9 X9 Y9 M9 SG9 XA9 YA9 BA9 PL9 g0 g1 g2 gf x0 x1 x2 xf HSoy;generalize sortO g [] x=so at *;generalize sortO g [] y=sp at *;obtain ⟨pb,po,hAp,hn0,hn1,hcs⟩:=params_at HPp.out PL10.out;subst hAp;have HCs:=kp hcs;obtain ⟨k0,k1,k2,k3⟩:=hcs _ (Below.refl _ _);obtain ⟨m0,m1,m2,m3,m4,m5,mf⟩:=Bk.c6 M10.out;have hlen2:m.params.length=2:=by rw [HPp.out];rfl
       have l3:(0:Int) < (m.params.length:Int):=by omega
       have l4:(1:Int) < (m.params.length:Int):=by omega
       have l3n:0 < m.params.length:=by omega
       have l4n:1 < m.params.length:=by omega
       have HLn:=kp hlen2;have HN0:=kp hn0;have HN1:=kp hn1;clear hcs hlen2 hn0 hn1
       by_cases e1:so.2=0
       case neg =>
        have e1':(so.2 != 0)=true:=by simp [e1]
        clear e1 HLw4;go_wp2_with fail
        refine(HWk.out _).mono ?_;rintro e w11 ⟨rfl,hbw⟩;have BW:=kp (B10.out.trans (hbw.mono B10.out.size));clear hbw;go_wp2_with fail
        go_ret;exact⟨rfl,BW.out⟩
       have e1':(so.2 != 0)=false:=by simp [e1]
       by_cases e2:sp.2=0
       case neg =>
        have e2':(sp.2 != 0)=true:=by simp [e2]
        clear e2 HLw4;go_wp2_with fail
        refine(HWk.out _).mono ?_;rintro e w11 ⟨rfl,hbw⟩;have BW:=kp (B10.out.trans (hbw.mono B10.out.size));clear hbw;go_wp2_with fail
        go_ret;exact⟨rfl,BW.out⟩
       have e2':(sp.2 != 0)=false:=by simp [e2]
       by_cases e3:so.1=p0.sort
       case neg =>
        have e3':(so.1 != p0.sort)=true:=by simp [e3]
        clear e3 HLw4;go_wp2_with fail
        refine(HWk.out _).mono ?_;rintro e w11 ⟨rfl,hbw⟩;have BW:=kp (B10.out.trans (hbw.mono B10.out.size));clear hbw;go_wp2_with fail
        go_ret;exact⟨rfl,BW.out⟩
       have e3':(so.1 != p0.sort)=false:=by simp [e3]
       by_cases e4:sp.1=p1.sort
       case neg =>
        have e4':(sp.1 != p1.sort)=true:=by simp [e4]
        clear e4 HLw4;go_wp2_with fail
        refine(HWk.out _).mono ?_;rintro e w11 ⟨rfl,hbw⟩;have BW:=kp (B10.out.trans (hbw.mono B10.out.size));clear hbw;go_wp2_with fail
        go_ret;exact⟨rfl,BW.out⟩
       have e4':(sp.1 != p1.sort)=false:=by simp [e4]
       have HLw5:=kp (HLw4.out e1 e2 e3 e4);clear HLw4 e1 e2 e3 e4;go_upto_region 11 with fail
       clear e1' e2' e3' e4' k0 k1 k2 k3 m0 m1 m2 m3 m4 m5 mf;have HP0:=kp (fun W=>pair_any W p0.name (x,A,c));have HP1:=kp (fun W=>pair_any W p1.name (y,A',d));have HL1:=kp (fun W l1 l2=>list_any W (pairX p0.name x,some ⟨l1,0,none⟩,3) (pairX p1.name y,some ⟨l2,0,none⟩,3) (symX { data:=#[] },none,0) 2 (by omega));have HL2:=kp (fun W l3=>list_any W (symX sLet,none,0) (.mk 3 noB [pairX p0.name x,pairX p1.name y],some ⟨l3,0,none⟩,3) (m.body,Ab,cb) 3 (by omega));have HL3:=kp (fun W=>list_any W (symX sMac,none,0) (x,A,c) (y,A',d) 3 (by omega));have ev1:sxV (x,A,c)=[.int .i8 x.kind,.string x.text,.slice A x.l.length c]:=rfl;have ev2:sxV (y,A',d)=[.int .i8 y.kind,.string y.text,.slice A' y.l.length d]:=rfl;have ev3:∀ l1,sxV (pairX p0.name x,some ⟨l1,0,none⟩,3)=[.int .i8 3,.string { data:=#[] },.slice (some ⟨l1,0,none⟩) 2 3]:=fun _=>rfl;have ev4:∀ l1,sxV (pairX p1.name y,some ⟨l1,0,none⟩,3)=[.int .i8 3,.string { data:=#[] },.slice (some ⟨l1,0,none⟩) 2 3]:=fun _=>rfl;have ev5:∀ s,sxV (symX s,none,0)=[.int .i8 0,.string s,.slice none 0 0]:=fun _=>rfl;have ev6:∀ l3,sxV (.mk 3 noB [pairX p0.name x,pairX p1.name y],some ⟨l3,0,none⟩,3)=[.int .i8 3,.string { data:=#[] },.slice (some ⟨l3,0,none⟩) 2 3]:=fun _=>rfl;have ev7:sxV (m.body,Ab,cb)=[.int .i8 m.body.kind,.string m.body.text,.slice Ab m.body.l.length cb]:=rfl;unfold PairPost at HP0 HP1
       unfold ListPost at HL1 HL2 HL3;simp only [ev1,ev2,ev3,ev4,ev5,ev6,ev7] at HP0 HP1 HL1 HL2 HL3;clear ev1 ev2 ev3 ev4 ev5 ev6 ev7
       go_cut [14] from 96 to 116 (fun v V=>Let2Cut w10 (let2X p0.name p1.name x y m.body) v V)
       case first =>
        clear HLw5 HLn HPp PL10 SG10 HNm HTm HFx HFy HPx HMt HS4 HMm;have MB:=kp M10.out;have XB:=kp X10.out;have YB:=kp Y10.out;have XA:=kp XA10.out;have YA:=kp YA10.out;have BA:=kp BA10.out;clear M10 X10 Y10 XA10 YA10 BA10 G10 B10;have B0:=kp (Below.refl w10.heap.size w10).drew;refine wp_region_held_drew (S:=fun V=>Below w10.heap.size w10 V) (by kernel_rfl) (B0.out) (fun hHeld=>?_);refine plz [0,1,2,3,4,5,6,8,9,10,11,12,13,15,17,18] ?_;iterate 16 (refine tnz (v:=?_) ?_ ?_;rotate_left;(focus first | ((intro w hSw;go_simp;try with_reducible rfl);done) | ((intro w hSw;(obtain ⟨m0,m1,m2,m3,m4,m5,mf⟩:=Bk.c6 (Bk.on MB.out hSw);obtain ⟨x0,x1,x2,xf⟩:=Bk.c3 (Bk.on XB.out hSw);obtain ⟨y0,y1,y2,yf⟩:=Bk.c3 (Bk.on YB.out hSw);obtain ⟨k0,k1,k2,k3⟩:=HCs.out _ hSw;go_simp;try with_reducible rfl));done));try simp only [pt])
        refine pzz ?_;generalize hwd:World.drew _=wd at *;clear hwd;have Bd:=kp B0.out;clear B0;refine r2y 7 20 (fun K hK=>?_) fun K hK=>?_
        ·skip;go_simp
         go_wp2_with (go_at_call 11;refine(HP0.out _).mono ?_;rintro e wd1 ⟨⟨l1,rfl,hle,hl1⟩,hb⟩;have BB:=kp (Bd.out.trans (hb.mono Bd.out.size));have HH:=kp hb;have LL:=kp hl1;clear hle hl1 hb)
         have Bd1:=kp BB.out;have L1d1:=kp LL.out;clear BB LL HH Bd ;refine hK.out _ _ Bd1.out (fun hHeld=>?_);clear hK K;try simp only [pt]
         refine r2y 14 20 (fun K hK=>?_) fun K hK=>?_
         ·skip;go_simp
          go_wp2_with (go_at_call 11;refine(HP1.out _).mono ?_;rintro e wd12 ⟨⟨l2,rfl,hle,hl2⟩,hb⟩;have BB:=kp (Bd1.out.trans (hb.mono Bd1.out.size));have HH:=kp hb;have LL:=kp hl2;clear hle hl2 hb)
          have Bd12:=kp BB.out;have L2d12:=kp LL.out;have L1d12:=kp (Bk.on L1d1.out HH.out);clear BB LL HH Bd1 L1d1;refine hK.out _ _ Bd12.out (fun hHeld=>?_);clear hK K;try simp only [pt]
          refine r2y 16 20 (fun K hK=>?_) fun K hK=>?_
          ·skip;go_simp
           go_wp2_with (go_at_call 10;refine(HL1.out _ _ _).mono ?_;rintro e wd123 ⟨⟨l3,rfl,hle,hl3⟩,hb⟩;have BB:=kp (Bd12.out.trans (hb.mono Bd12.out.size));have HH:=kp hb;have LL:=kp hl3;clear hle hl3 hb)
           have Bd123:=kp BB.out;have L3d123:=kp LL.out;have L1d123:=kp (Bk.on L1d12.out HH.out);have L2d123:=kp (Bk.on L2d12.out HH.out);clear BB LL HH Bd12 L1d12 L2d12;refine hK.out _ _ Bd123.out (fun hHeld=>?_);clear hK K;try simp only [pt]
           refine r2y 19 20 (fun K hK=>?_) fun K hK=>?_
           ·skip;go_simp
            go_wp2_with (go_at_call 10;refine(HL2.out _ _).mono ?_;rintro e wd1234 ⟨⟨l4,rfl,hle,hl4⟩,hb⟩;have BB:=kp (Bd123.out.trans (hb.mono Bd123.out.size));have HH:=kp hb;have LL:=kp hl4;clear hle hl4 hb)
            have Bd1234:=kp BB.out;have L4d1234:=kp LL.out;have L1d1234:=kp (Bk.on L1d123.out HH.out);have L2d1234:=kp (Bk.on L2d123.out HH.out);have L3d1234:=kp (Bk.on L3d123.out HH.out);clear BB LL HH Bd123 L1d123 L2d123 L3d123;refine hK.out _ _ Bd1234.out (fun hHeld=>?_);clear hK K;try simp only [pt]
            have hz:=Bd1234.out.size;have Bt:=kp (Bd1234.out.alloc Bd1234.out.size (.cells #[.int .i8 0,.string { data:=#[] },.slice none 0 0] 30));have Tt:=kp (Bk.new wd1234 (.cells #[.int .i8 0,.string { data:=#[] },.slice none 0 0] 30));have L1t:=kp (Bk.keep L1d1234.out (.cells #[.int .i8 0,.string { data:=#[] },.slice none 0 0] 30));have L2t:=kp (Bk.keep L2d1234.out (.cells #[.int .i8 0,.string { data:=#[] },.slice none 0 0] 30));have L3t:=kp (Bk.keep L3d1234.out (.cells #[.int .i8 0,.string { data:=#[] },.slice none 0 0] 30));have L4t:=kp (Bk.keep L4d1234.out (.cells #[.int .i8 0,.string { data:=#[] },.slice none 0 0] 30));clear Bd1234 L1d1234 L2d1234 L3d1234 L4d1234;refine rd 20 fun K hK=>?_;go_simp;refine hK.out _ _ Bt.out (fun hHeld=>?_);clear hK K;try simp only [pt]
            generalize wd1234.alloc (.cells #[.int .i8 0,.string { data:=#[] },.slice none 0 0] 30)=wt at *;generalize wd1234.heap.size=tb at *;have hT:=Tt.out;obtain ⟨t0,t1,t2,tf⟩:=Bk.c3 hT;have n1:l1≠tb:=fun e=>by have h:=L1t.out;rw [e,hT] at h;simp [flatV,sxV] at h
            have n2:l2≠tb:=fun e=>by have h:=L2t.out;rw [e,hT] at h;simp [flatV,sxV] at h
            have n3:l3≠tb:=fun e=>by have h:=L3t.out;rw [e,hT] at h;simp [flatV,sxV] at h
            have n4:l4≠tb:=fun e=>by have h:=L4t.out;rw [e,hT] at h;simp [flatV,sxV] at h
            refine rd 21 fun K hK=>?_;go_simp;refine hK.out _ _ (set3'_below Bt.out (b:=tb) hz _ _ _) (fun hHeld=>?_);clear hK K;try simp only [pt]
            refine dnz ?_;clear hHeld;go_wp2_with fail
            go_meet;have BS:=set3'_below Bt.out (b:=tb) hz (.int .i8 3) (.string { data:=#[] }) (.slice (some ⟨l4,0,none⟩) 3 3);exact⟨tb,_,rfl,set3'_at hT _ _ _,hz,BS,let2_at HN0.out HN1.out (set3'_apart L1t.out n1 _ _ _) (set3'_apart L2t.out n2 _ _ _) (set3'_apart L3t.out n3 _ _ _) (set3'_apart L4t.out n4 _ _ _) (XA.out.on BS) (YA.out.on BS) (BA.out.on BS)⟩
           ·skip;have hz:=Bd123.out.size;have Bt:=kp (Bd123.out.alloc Bd123.out.size (.cells #[.int .i8 0,.string { data:=#[] },.slice none 0 0] 30));have Tt:=kp (Bk.new wd123 (.cells #[.int .i8 0,.string { data:=#[] },.slice none 0 0] 30));have L1t:=kp (Bk.keep L1d123.out (.cells #[.int .i8 0,.string { data:=#[] },.slice none 0 0] 30));have L2t:=kp (Bk.keep L2d123.out (.cells #[.int .i8 0,.string { data:=#[] },.slice none 0 0] 30));have L3t:=kp (Bk.keep L3d123.out (.cells #[.int .i8 0,.string { data:=#[] },.slice none 0 0] 30));clear Bd123 L1d123 L2d123 L3d123;go_simp;refine hK.out _ _ Bt.out (fun hHeld=>?_);clear hK K;try simp only [pt]
            generalize wd123.alloc (.cells #[.int .i8 0,.string { data:=#[] },.slice none 0 0] 30)=wt at *;generalize wd123.heap.size=tb at *;refine rd 19 fun K hK=>?_;go_simp
            go_wp2_with (go_at_call 10;refine(HL2.out _ _).mono ?_;rintro e wt4 ⟨⟨l4,rfl,hle,hl4⟩,hb⟩;have BB:=kp (Bt.out.trans (hb.mono Bt.out.size));have HH:=kp hb;have LL:=kp hl4;clear hle hl4 hb)
            have Bt4:=kp BB.out;have L4t4:=kp LL.out;have L1t4:=kp (Bk.on L1t.out HH.out);have L2t4:=kp (Bk.on L2t.out HH.out);have L3t4:=kp (Bk.on L3t.out HH.out);have Tt4:=kp (Bk.on Tt.out HH.out);clear BB LL HH Bt L1t L2t L3t Tt;refine hK.out _ _ Bt4.out (fun hHeld=>?_);clear hK K;try simp only [pt]
            have hT:=Tt4.out;obtain ⟨t0,t1,t2,tf⟩:=Bk.c3 hT;have n1:l1≠tb:=fun e=>by have h:=L1t4.out;rw [e,hT] at h;simp [flatV,sxV] at h
            have n2:l2≠tb:=fun e=>by have h:=L2t4.out;rw [e,hT] at h;simp [flatV,sxV] at h
            have n3:l3≠tb:=fun e=>by have h:=L3t4.out;rw [e,hT] at h;simp [flatV,sxV] at h
            have n4:l4≠tb:=fun e=>by have h:=L4t4.out;rw [e,hT] at h;simp [flatV,sxV] at h
            refine rd 21 fun K hK=>?_;go_simp;refine hK.out _ _ (set3'_below Bt4.out (b:=tb) hz _ _ _) (fun hHeld=>?_);clear hK K;try simp only [pt]
            refine dnz ?_;clear hHeld;go_wp2_with fail
            go_meet;have BS:=set3'_below Bt4.out (b:=tb) hz (.int .i8 3) (.string { data:=#[] }) (.slice (some ⟨l4,0,none⟩) 3 3);exact⟨tb,_,rfl,set3'_at hT _ _ _,hz,BS,let2_at HN0.out HN1.out (set3'_apart L1t4.out n1 _ _ _) (set3'_apart L2t4.out n2 _ _ _) (set3'_apart L3t4.out n3 _ _ _) (set3'_apart L4t4.out n4 _ _ _) (XA.out.on BS) (YA.out.on BS) (BA.out.on BS)⟩
          ·skip;have hz:=Bd12.out.size;have Bt:=kp (Bd12.out.alloc Bd12.out.size (.cells #[.int .i8 0,.string { data:=#[] },.slice none 0 0] 30));have Tt:=kp (Bk.new wd12 (.cells #[.int .i8 0,.string { data:=#[] },.slice none 0 0] 30));have L1t:=kp (Bk.keep L1d12.out (.cells #[.int .i8 0,.string { data:=#[] },.slice none 0 0] 30));have L2t:=kp (Bk.keep L2d12.out (.cells #[.int .i8 0,.string { data:=#[] },.slice none 0 0] 30));clear Bd12 L1d12 L2d12;go_simp;refine hK.out _ _ Bt.out (fun hHeld=>?_);clear hK K;try simp only [pt]
           generalize wd12.alloc (.cells #[.int .i8 0,.string { data:=#[] },.slice none 0 0] 30)=wt at *;generalize wd12.heap.size=tb at *;refine rd 16 fun K hK=>?_;go_simp
           go_wp2_with (go_at_call 10;refine(HL1.out _ _ _).mono ?_;rintro e wt3 ⟨⟨l3,rfl,hle,hl3⟩,hb⟩;have BB:=kp (Bt.out.trans (hb.mono Bt.out.size));have HH:=kp hb;have LL:=kp hl3;clear hle hl3 hb)
           have Bt3:=kp BB.out;have L3t3:=kp LL.out;have L1t3:=kp (Bk.on L1t.out HH.out);have L2t3:=kp (Bk.on L2t.out HH.out);have Tt3:=kp (Bk.on Tt.out HH.out);clear BB LL HH Bt L1t L2t Tt;refine hK.out _ _ Bt3.out (fun hHeld=>?_);clear hK K;try simp only [pt]
           refine rd 19 fun K hK=>?_;go_simp
           go_wp2_with (go_at_call 10;refine(HL2.out _ _).mono ?_;rintro e wt34 ⟨⟨l4,rfl,hle,hl4⟩,hb⟩;have BB:=kp (Bt3.out.trans (hb.mono Bt3.out.size));have HH:=kp hb;have LL:=kp hl4;clear hle hl4 hb)
           have Bt34:=kp BB.out;have L4t34:=kp LL.out;have L1t34:=kp (Bk.on L1t3.out HH.out);have L2t34:=kp (Bk.on L2t3.out HH.out);have L3t34:=kp (Bk.on L3t3.out HH.out);have Tt34:=kp (Bk.on Tt3.out HH.out);clear BB LL HH Bt3 L1t3 L2t3 L3t3 Tt3;refine hK.out _ _ Bt34.out (fun hHeld=>?_);clear hK K;try simp only [pt]
           have hT:=Tt34.out;obtain ⟨t0,t1,t2,tf⟩:=Bk.c3 hT;have n1:l1≠tb:=fun e=>by have h:=L1t34.out;rw [e,hT] at h;simp [flatV,sxV] at h
           have n2:l2≠tb:=fun e=>by have h:=L2t34.out;rw [e,hT] at h;simp [flatV,sxV] at h
           have n3:l3≠tb:=fun e=>by have h:=L3t34.out;rw [e,hT] at h;simp [flatV,sxV] at h
           have n4:l4≠tb:=fun e=>by have h:=L4t34.out;rw [e,hT] at h;simp [flatV,sxV] at h
           refine rd 21 fun K hK=>?_;go_simp;refine hK.out _ _ (set3'_below Bt34.out (b:=tb) hz _ _ _) (fun hHeld=>?_);clear hK K;try simp only [pt]
           refine dnz ?_;clear hHeld;go_wp2_with fail
           go_meet;have BS:=set3'_below Bt34.out (b:=tb) hz (.int .i8 3) (.string { data:=#[] }) (.slice (some ⟨l4,0,none⟩) 3 3);exact⟨tb,_,rfl,set3'_at hT _ _ _,hz,BS,let2_at HN0.out HN1.out (set3'_apart L1t34.out n1 _ _ _) (set3'_apart L2t34.out n2 _ _ _) (set3'_apart L3t34.out n3 _ _ _) (set3'_apart L4t34.out n4 _ _ _) (XA.out.on BS) (YA.out.on BS) (BA.out.on BS)⟩
         ·skip;have hz:=Bd1.out.size;have Bt:=kp (Bd1.out.alloc Bd1.out.size (.cells #[.int .i8 0,.string { data:=#[] },.slice none 0 0] 30));have Tt:=kp (Bk.new wd1 (.cells #[.int .i8 0,.string { data:=#[] },.slice none 0 0] 30));have L1t:=kp (Bk.keep L1d1.out (.cells #[.int .i8 0,.string { data:=#[] },.slice none 0 0] 30));clear Bd1 L1d1;go_simp;refine hK.out _ _ Bt.out (fun hHeld=>?_);clear hK K;try simp only [pt]
          generalize wd1.alloc (.cells #[.int .i8 0,.string { data:=#[] },.slice none 0 0] 30)=wt at *;generalize wd1.heap.size=tb at *;refine rd 14 fun K hK=>?_;go_simp
          go_wp2_with (go_at_call 11;refine(HP1.out _).mono ?_;rintro e wt2 ⟨⟨l2,rfl,hle,hl2⟩,hb⟩;have BB:=kp (Bt.out.trans (hb.mono Bt.out.size));have HH:=kp hb;have LL:=kp hl2;clear hle hl2 hb)
          have Bt2:=kp BB.out;have L2t2:=kp LL.out;have L1t2:=kp (Bk.on L1t.out HH.out);have Tt2:=kp (Bk.on Tt.out HH.out);clear BB LL HH Bt L1t Tt;refine hK.out _ _ Bt2.out (fun hHeld=>?_);clear hK K;try simp only [pt]
          refine rd 16 fun K hK=>?_;go_simp
          go_wp2_with (go_at_call 10;refine(HL1.out _ _ _).mono ?_;rintro e wt23 ⟨⟨l3,rfl,hle,hl3⟩,hb⟩;have BB:=kp (Bt2.out.trans (hb.mono Bt2.out.size));have HH:=kp hb;have LL:=kp hl3;clear hle hl3 hb)
          have Bt23:=kp BB.out;have L3t23:=kp LL.out;have L1t23:=kp (Bk.on L1t2.out HH.out);have L2t23:=kp (Bk.on L2t2.out HH.out);have Tt23:=kp (Bk.on Tt2.out HH.out);clear BB LL HH Bt2 L1t2 L2t2 Tt2;refine hK.out _ _ Bt23.out (fun hHeld=>?_);clear hK K;try simp only [pt]
          refine rd 19 fun K hK=>?_;go_simp
          go_wp2_with (go_at_call 10;refine(HL2.out _ _).mono ?_;rintro e wt234 ⟨⟨l4,rfl,hle,hl4⟩,hb⟩;have BB:=kp (Bt23.out.trans (hb.mono Bt23.out.size));have HH:=kp hb;have LL:=kp hl4;clear hle hl4 hb)
          have Bt234:=kp BB.out;have L4t234:=kp LL.out;have L1t234:=kp (Bk.on L1t23.out HH.out);have L2t234:=kp (Bk.on L2t23.out HH.out);have L3t234:=kp (Bk.on L3t23.out HH.out);have Tt234:=kp (Bk.on Tt23.out HH.out);clear BB LL HH Bt23 L1t23 L2t23 L3t23 Tt23;refine hK.out _ _ Bt234.out (fun hHeld=>?_);clear hK K;try simp only [pt]
          have hT:=Tt234.out;obtain ⟨t0,t1,t2,tf⟩:=Bk.c3 hT;have n1:l1≠tb:=fun e=>by have h:=L1t234.out;rw [e,hT] at h;simp [flatV,sxV] at h
          have n2:l2≠tb:=fun e=>by have h:=L2t234.out;rw [e,hT] at h;simp [flatV,sxV] at h
          have n3:l3≠tb:=fun e=>by have h:=L3t234.out;rw [e,hT] at h;simp [flatV,sxV] at h
          have n4:l4≠tb:=fun e=>by have h:=L4t234.out;rw [e,hT] at h;simp [flatV,sxV] at h
          refine rd 21 fun K hK=>?_;go_simp;refine hK.out _ _ (set3'_below Bt234.out (b:=tb) hz _ _ _) (fun hHeld=>?_);clear hK K;try simp only [pt]
          refine dnz ?_;clear hHeld;go_wp2_with fail
          go_meet;have BS:=set3'_below Bt234.out (b:=tb) hz (.int .i8 3) (.string { data:=#[] }) (.slice (some ⟨l4,0,none⟩) 3 3);exact⟨tb,_,rfl,set3'_at hT _ _ _,hz,BS,let2_at HN0.out HN1.out (set3'_apart L1t234.out n1 _ _ _) (set3'_apart L2t234.out n2 _ _ _) (set3'_apart L3t234.out n3 _ _ _) (set3'_apart L4t234.out n4 _ _ _) (XA.out.on BS) (YA.out.on BS) (BA.out.on BS)⟩
        ·skip;have hz:=Bd.out.size;have Bt:=kp (Bd.out.alloc Bd.out.size (.cells #[.int .i8 0,.string { data:=#[] },.slice none 0 0] 30));have Tt:=kp (Bk.new wd (.cells #[.int .i8 0,.string { data:=#[] },.slice none 0 0] 30));clear Bd ;go_simp;refine hK.out _ _ Bt.out (fun hHeld=>?_);clear hK K;try simp only [pt]
         generalize wd.alloc (.cells #[.int .i8 0,.string { data:=#[] },.slice none 0 0] 30)=wt at *;generalize wd.heap.size=tb at *;refine rd 7 fun K hK=>?_;go_simp
         go_wp2_with (go_at_call 11;refine(HP0.out _).mono ?_;rintro e wt1 ⟨⟨l1,rfl,hle,hl1⟩,hb⟩;have BB:=kp (Bt.out.trans (hb.mono Bt.out.size));have HH:=kp hb;have LL:=kp hl1;clear hle hl1 hb)
         have Bt1:=kp BB.out;have L1t1:=kp LL.out;have Tt1:=kp (Bk.on Tt.out HH.out);clear BB LL HH Bt  Tt;refine hK.out _ _ Bt1.out (fun hHeld=>?_);clear hK K;try simp only [pt]
         refine rd 14 fun K hK=>?_;go_simp
         go_wp2_with (go_at_call 11;refine(HP1.out _).mono ?_;rintro e wt12 ⟨⟨l2,rfl,hle,hl2⟩,hb⟩;have BB:=kp (Bt1.out.trans (hb.mono Bt1.out.size));have HH:=kp hb;have LL:=kp hl2;clear hle hl2 hb)
         have Bt12:=kp BB.out;have L2t12:=kp LL.out;have L1t12:=kp (Bk.on L1t1.out HH.out);have Tt12:=kp (Bk.on Tt1.out HH.out);clear BB LL HH Bt1 L1t1 Tt1;refine hK.out _ _ Bt12.out (fun hHeld=>?_);clear hK K;try simp only [pt]
         refine rd 16 fun K hK=>?_;go_simp
         go_wp2_with (go_at_call 10;refine(HL1.out _ _ _).mono ?_;rintro e wt123 ⟨⟨l3,rfl,hle,hl3⟩,hb⟩;have BB:=kp (Bt12.out.trans (hb.mono Bt12.out.size));have HH:=kp hb;have LL:=kp hl3;clear hle hl3 hb)
         have Bt123:=kp BB.out;have L3t123:=kp LL.out;have L1t123:=kp (Bk.on L1t12.out HH.out);have L2t123:=kp (Bk.on L2t12.out HH.out);have Tt123:=kp (Bk.on Tt12.out HH.out);clear BB LL HH Bt12 L1t12 L2t12 Tt12;refine hK.out _ _ Bt123.out (fun hHeld=>?_);clear hK K;try simp only [pt]
         refine rd 19 fun K hK=>?_;go_simp
         go_wp2_with (go_at_call 10;refine(HL2.out _ _).mono ?_;rintro e wt1234 ⟨⟨l4,rfl,hle,hl4⟩,hb⟩;have BB:=kp (Bt123.out.trans (hb.mono Bt123.out.size));have HH:=kp hb;have LL:=kp hl4;clear hle hl4 hb)
         have Bt1234:=kp BB.out;have L4t1234:=kp LL.out;have L1t1234:=kp (Bk.on L1t123.out HH.out);have L2t1234:=kp (Bk.on L2t123.out HH.out);have L3t1234:=kp (Bk.on L3t123.out HH.out);have Tt1234:=kp (Bk.on Tt123.out HH.out);clear BB LL HH Bt123 L1t123 L2t123 L3t123 Tt123;refine hK.out _ _ Bt1234.out (fun hHeld=>?_);clear hK K;try simp only [pt]
         have hT:=Tt1234.out;obtain ⟨t0,t1,t2,tf⟩:=Bk.c3 hT;have n1:l1≠tb:=fun e=>by have h:=L1t1234.out;rw [e,hT] at h;simp [flatV,sxV] at h
         have n2:l2≠tb:=fun e=>by have h:=L2t1234.out;rw [e,hT] at h;simp [flatV,sxV] at h
         have n3:l3≠tb:=fun e=>by have h:=L3t1234.out;rw [e,hT] at h;simp [flatV,sxV] at h
         have n4:l4≠tb:=fun e=>by have h:=L4t1234.out;rw [e,hT] at h;simp [flatV,sxV] at h
         refine rd 21 fun K hK=>?_;go_simp;refine hK.out _ _ (set3'_below Bt1234.out (b:=tb) hz _ _ _) (fun hHeld=>?_);clear hK K;try simp only [pt]
         refine dnz ?_;clear hHeld;go_wp2_with fail
         go_meet;have BS:=set3'_below Bt1234.out (b:=tb) hz (.int .i8 3) (.string { data:=#[] }) (.slice (some ⟨l4,0,none⟩) 3 3);exact⟨tb,_,rfl,set3'_at hT _ _ _,hz,BS,let2_at HN0.out HN1.out (set3'_apart L1t1234.out n1 _ _ _) (set3'_apart L2t1234.out n2 _ _ _) (set3'_apart L3t1234.out n3 _ _ _) (set3'_apart L4t1234.out n4 _ _ _) (XA.out.on BS) (YA.out.on BS) (BA.out.on BS)⟩
       case rest =>
        obtain ⟨tl,A7,rfl,hTl,hle,hb11,hxl⟩:=hcut;have B11:=kp (B10.out.trans (hb11.mono B10.out.size));have G11:=kp (Bk.on G10.out hb11);have X11:=kp (Bk.on X10.out hb11);have Y11:=kp (Bk.on Y10.out hb11);have SG11:=kp (SG10.out.on hb11);have XA11:=kp (XA10.out.on hb11);have YA11:=kp (YA10.out.on hb11);clear hb11 B10 G10 X10 Y10 SG10 XA10 YA10 hle M10 BA10 PL10 HCs HP0 HP1 HL1 HL2 HLn;have T11:=kp hTl;have XL11:=kp hxl;clear hTl hxl;generalize hwc:wc=w11 at *;clear hwc;have HFl:=kp (show(let2X p0.name p1.name x y m.body).full≤3000000 by have h1:=full_let2 p0.name p1.name x y m.body;have h2:=HTm.out;have h3:=HNm.out;rw [h3] at h2;omega);have HFc:=kp (show(callX x y).full≤3000000 by have h1:=full_call x y;have h2:=HFx.out;have h3:=HFy.out;omega);have el1:(let2X p0.name p1.name x y m.body).kind=3:=rfl;have el2:(let2X p0.name p1.name x y m.body).text={ data:=#[] }:=rfl;have el3:(let2X p0.name p1.name x y m.body).l.length=3:=rfl;have ec1:(callX x y).kind=3:=rfl;have ec2:(callX x y).text={ data:=#[] }:=rfl;have ec3:(callX x y).l.length=3:=rfl;have HMl:=kp (fun W (h:XAt W A7 3 (let2X p0.name p1.name x y m.body))=>rsxmay_any h);have HMc:=kp (fun W l (h:XAt W (some ⟨l,0,none⟩) 3 (callX x y))=>rsxmay_any h);have HXl:=kp (fun W (h:SigAt W A1 c1 A2 c2 (some ⟨b,ob,none⟩) c3 g) At (ht:Lies 8 NodeR W At newT) (hx:XAt W A7 3 (let2X p0.name p1.name x y m.body))=>makes_new HS4.out HMm.out HFl.out h At ht hx)
        have HXc:=kp (fun W l (h:SigAt W A1 c1 A2 c2 (some ⟨b,ob,none⟩) c3 g) At (ht:Lies 8 NodeR W At newT) (hx:XAt W (some ⟨l,0,none⟩) 3 (callX x y))=>makes_new HS4.out HMm.out HFc.out h At ht hx);have HCa:=kp (fun W l h hx hy=>call_at (W:=W) (l:=l) (x:=x) (y:=y) (A:=A) (A':=A') (c:=c) (d:=d) h hx hy);simp only [el1,el2,el3] at HMl HXl;simp only [ec1,ec2,ec3] at HMc HXc;clear el1 el2 el3 ec1 ec2 ec3 HFl HFc HTm HNm HMt HPx HPp HN0 HN1;have HN:=kp tnew_any;generalize let2X p0.name p1.name x y m.body=lx at *;generalize callX x y=cx at *;unfold MakesPost at HXl HXc;obtain ⟨x0,x1,x2,xf⟩:=Bk.c3 X11.out;obtain ⟨y0,y1,y2,yf⟩:=Bk.c3 Y11.out;go_wp2_with fail
        refine(HL3.out _).mono ?_;rintro e w12 ⟨⟨lc,rfl,hle,hlc⟩,hb12⟩;have LC12:=kp hlc;have B12:=kp (B11.out.trans (hb12.mono B11.out.size));have G12:=kp (Bk.on G11.out hb12);have X12:=kp (Bk.on X11.out hb12);have Y12:=kp (Bk.on Y11.out hb12);have T12:=kp (Bk.on T11.out hb12);have SG12:=kp (SG11.out.on hb12);have XA12:=kp (XA11.out.on hb12);have YA12:=kp (YA11.out.on hb12);have XL12:=kp (XL11.out.on hb12);clear hb12 B11 G11 X11 Y11 T11 SG11 XA11 YA11 XL11 hle hlc x0 x1 x2 xf y0 y1 y2 yf HL3;have CX12:=kp (HCa.out _ _ LC12.out XA12.out YA12.out);have hb13:=(Below.refl w12.heap.size w12).alloc (Nat.le_refl _) (.cells #[.int .i8 3,.string { data:=#[] },.slice (some ⟨lc,0,none⟩) 3 3] 30);have C13:=kp (Bk.new w12 (.cells #[.int .i8 3,.string { data:=#[] },.slice (some ⟨lc,0,none⟩) 3 3] 30));have B13:=kp (B12.out.trans (hb13.mono B12.out.size));have G13:=kp (Bk.on G12.out hb13);have T13:=kp (Bk.on T12.out hb13);have SG13:=kp (SG12.out.on hb13);have XL13:=kp (XL12.out.on hb13);have CX13:=kp (CX12.out.on hb13);clear hb13 B12 G12 T12 SG12 XL12 CX12 LC12 X12 Y12 XA12 YA12 HCa;go_upto_region 13 with fail
        generalize w12.alloc (.cells #[.int .i8 3,.string { data:=#[] },.slice (some ⟨lc,0,none⟩) 3 3] 30)=w13 at *;generalize w12.heap.size=cc at *;obtain ⟨x0,x1,x2,xf⟩:=Bk.c3 T13.out;obtain ⟨y0,y1,y2,yf⟩:=Bk.c3 C13.out;go_wp2_with fail
        refine(HMl.out _ XL13.out).mono ?_;rintro e w14 ⟨rfl,hb14⟩;have B14:=kp (B13.out.trans (hb14.mono B13.out.size));have G14:=kp (Bk.on G13.out hb14);have T14:=kp (Bk.on T13.out hb14);have C14:=kp (Bk.on C13.out hb14);have SG14:=kp (SG13.out.on hb14);have XL14:=kp (XL13.out.on hb14);have CX14:=kp (CX13.out.on hb14);clear hb14 B13 G13 T13 C13 SG13 XL13 CX13 x0 x1 x2 xf y0 y1 y2 yf HMl
        cases hml:lx.may with
        | false =>
         clear HLw5;go_wp2_with fail
         refine(HWk.out _).mono ?_;rintro e w15 ⟨rfl,hbw⟩;have BW:=kp (B14.out.trans (hbw.mono B14.out.size));clear hbw;go_wp2_with fail
         go_ret;exact⟨rfl,BW.out⟩
        | true =>
         obtain ⟨y0,y1,y2,yf⟩:=Bk.c3 C14.out;go_wp2_with fail
         refine(HMc.out _ _ CX14.out).mono ?_;rintro e w15 ⟨rfl,hb15⟩;have B15:=kp (B14.out.trans (hb15.mono B14.out.size));have G15:=kp (Bk.on G14.out hb15);have T15:=kp (Bk.on T14.out hb15);have C15:=kp (Bk.on C14.out hb15);have SG15:=kp (SG14.out.on hb15);have XL15:=kp (XL14.out.on hb15);have CX15:=kp (CX14.out.on hb15);clear hb15 B14 G14 T14 C14 SG14 XL14 CX14 y0 y1 y2 yf HMc
         cases hmc:cx.may with
         | false =>
          clear HLw5;go_wp2_with fail
          refine(HWk.out _).mono ?_;rintro e w16 ⟨rfl,hbw⟩;have BW:=kp (B15.out.trans (hbw.mono B15.out.size));clear hbw;go_wp2_with fail
          go_ret;exact⟨rfl,BW.out⟩
         | true =>
          have HLw6:=kp (HLw5.out hmc hml);clear HLw5 hmc hml;have HXc2:=kp (fun W h At ht hx=>HXc.out W lc h At ht hx);clear HXc;generalize termO g newT cx 200=tc at *;generalize termO g newT lx 200=tv at *;go_upto_region 15 with fail
          go_cut [16,17,11] from 129 to 137 (fun v7 v8 v9 V=>TermCut w15 tc v7 v8 v9 V)
          case first =>
           have GB:=kp G15.out;have XB:=kp C15.out;have B0:=kp (Below.refl w15.heap.size w15).drew;refine wp_region_held_drew (S:=fun V=>V.heap[w.heap.size]?=some (.cells #[.slice A1 g.sorts.length c1,.slice A2 g.funs.length c2,.slice (some ⟨b,ob,none⟩) g.macros.length c3] 26 (0,0))∧V.heap[cc]?=some (.cells #[.int .i8 3,.string { data:=#[] },.slice (some ⟨lc,0,none⟩) 3 3] 30 (0,0))) (by kernel_rfl) (⟨GB.out,XB.out⟩) (fun hHeld=>?_);refine plz [0,2] ?_;iterate 2 (refine tnz (v:=?_) ?_ ?_;rotate_left;(focus first | ((intro w hSw;(obtain ⟨x0,x1,x2,xf⟩:=Bk.c3 hSw.1;go_simp;try with_reducible rfl));done) | ((intro w hSw;(obtain ⟨x0,x1,x2,xf⟩:=Bk.c3 hSw.2;go_simp;try with_reducible rfl));done));try simp only [pt])
           refine pzz ?_;generalize hwd:World.drew _=wd at *;clear hwd;have hz0:=B0.out.size;refine r2y 1 8 (fun K hK=>?_) fun K hK=>?_
           ·skip;go_simp
            go_wp2_with (go_at_call 14;refine(HN.out _).mono ?_;rintro e w5 ⟨g5,rfl,hle5,ht5,hb5⟩;have B5:=kp (B0.out.trans (hb5.mono B0.out.size));have T5:=kp (new_lies ht5);have H5:=kp hb5;clear hle5 ht5 hb5)
            refine hK.out _ _ ⟨Bk.on GB.out B5.out,Bk.on XB.out B5.out⟩ (fun hHeld=>?_);clear hK K;try simp only [pt]
            refine r2y 3 8 (fun K hK=>?_) fun K hK=>?_
            ·skip;go_simp;have HMx:=kp (HXc2.out _ (SG15.out.on B5.out) _ T5.out (CX15.out.on B5.out))
             go_wp2_with (go_at_call 13;refine HMx.out.mono ?_;rintro e w6 ⟨A',c',rfl,hl6,hle6,hlm6,hlen6,hi6,hb6⟩;have B6:=kp (B5.out.trans (hb6.mono B5.out.size));have Q6:=kp (And.intro hl6 (And.intro hle6 (And.intro hlm6 (And.intro hlen6 hi6))));have H6:=kp hb6;clear hl6 hle6 hlm6 hlen6 hi6 hb6)
             refine hK.out _ _ ⟨Bk.on GB.out B6.out,Bk.on XB.out B6.out⟩ (fun hHeld=>?_);clear hK K;try simp only [pt]
             refine plz [4,5,6,7] ?_;iterate 4 (refine tnz (v:=?_) ?_ ?_;rotate_left;(focus (intro w hSw;go_simp;try with_reducible rfl));try simp only [pt])
             refine pzz ?_;have B7:=kp (B6.out.alloc B6.out.size (.cells #[.slice none 0 0] 38));have T7:=kp (Bk.new w6 (.cells #[.slice none 0 0] 38));have Q7:=kp (And.intro (Q6.out.1.on NodeR.lasts ((Below.refl w6.heap.size w6).alloc (Nat.le_refl _) (.cells #[.slice none 0 0] 38))) Q6.out.2);have hz6:=B6.out.size;refine rd 8 fun K hK=>?_;go_simp;refine hK.out _ _ ⟨Bk.on GB.out B7.out,Bk.on XB.out B7.out⟩ (fun hHeld=>?_);clear hK K;try simp only [pt]
             clear B6 Q6 H6;generalize w6.alloc (.cells #[.slice none 0 0] 38)=w7 at *;generalize w6.heap.size=tb at *;have B6:=kp B7.out;have Q6:=kp Q7.out;have hTb:=T7.out;have FR:=kp (far_table Q6.out.1 hTb);obtain ⟨t0,tf⟩:=Bk.c1 hTb;refine rd 9 fun K hK=>?_;go_simp;refine hK.out _ _ (⟨Bk.apart (Bk.on GB.out B6.out) (p:=⟨tb,0,none⟩) (Nat.ne_of_lt (Nat.lt_of_lt_of_le (lt_of_block GB.out) hz6)) _,Bk.apart (Bk.on XB.out B6.out) (p:=⟨tb,0,none⟩) (Nat.ne_of_lt (Nat.lt_of_lt_of_le (lt_of_block XB.out) hz6)) _⟩) (fun hHeld=>?_);clear hK K;try simp only [pt]
             refine plz [10,11] ?_;iterate 2 (refine tnz (v:=?_) ?_ ?_;rotate_left;(focus (intro w hSw;go_simp;try with_reducible rfl));try simp only [pt])
             refine pzz ?_;refine dnz ?_;clear hHeld;go_wp2_with fail
             go_meet;exact⟨tb,_,_,rfl,rfl,rfl,Bk.set_at hTb 0 _,hz6,B6.out.setCell (p:=⟨tb,0,none⟩) hz6 _,lies_other Q6.out.1 FR.out,Q6.out.2.1,Q6.out.2.2.1,Q6.out.2.2.2.1,Q6.out.2.2.2.2⟩
            ·skip;have B7:=kp (B5.out.alloc B5.out.size (.cells #[.slice none 0 0] 38));have T7:=kp (Bk.new w5 (.cells #[.slice none 0 0] 38));have N7:=kp (T5.out.on NodeR.lasts ((Below.refl w5.heap.size w5).alloc (Nat.le_refl _) (.cells #[.slice none 0 0] 38)));have hz6:=B5.out.size;go_simp;refine hK.out _ _ ⟨Bk.on GB.out B7.out,Bk.on XB.out B7.out⟩ (fun hHeld=>?_);clear hK K;try simp only [pt]
             generalize w5.alloc (.cells #[.slice none 0 0] 38)=w7 at *;generalize w5.heap.size=tb at *;refine rd 3 fun K hK=>?_;go_simp;have HMx:=kp (HXc2.out _ (SG15.out.on B7.out) _ N7.out (CX15.out.on B7.out))
             go_wp2_with (go_at_call 13;refine HMx.out.mono ?_;rintro e w6 ⟨A',c',rfl,hl6,hle6,hlm6,hlen6,hi6,hb6⟩;have B6:=kp (B7.out.trans (hb6.mono B7.out.size));have Q6:=kp (And.intro hl6 (And.intro hle6 (And.intro hlm6 (And.intro hlen6 hi6))));have H6:=kp hb6;clear hl6 hle6 hlm6 hlen6 hi6 hb6)
             refine hK.out _ _ ⟨Bk.on GB.out B6.out,Bk.on XB.out B6.out⟩ (fun hHeld=>?_);clear hK K;try simp only [pt]
             refine plz [4,5,6,7] ?_;iterate 4 (refine tnz (v:=?_) ?_ ?_;rotate_left;(focus (intro w hSw;go_simp;try with_reducible rfl));try simp only [pt])
             refine pzz ?_;have T8:=kp (Bk.on T7.out H6.out);have hTb:=T8.out;have FR:=kp (far_table Q6.out.1 hTb);obtain ⟨t0,tf⟩:=Bk.c1 hTb;refine rd 9 fun K hK=>?_;go_simp;refine hK.out _ _ (⟨Bk.apart (Bk.on GB.out B6.out) (p:=⟨tb,0,none⟩) (Nat.ne_of_lt (Nat.lt_of_lt_of_le (lt_of_block GB.out) hz6)) _,Bk.apart (Bk.on XB.out B6.out) (p:=⟨tb,0,none⟩) (Nat.ne_of_lt (Nat.lt_of_lt_of_le (lt_of_block XB.out) hz6)) _⟩) (fun hHeld=>?_);clear hK K;try simp only [pt]
             refine plz [10,11] ?_;iterate 2 (refine tnz (v:=?_) ?_ ?_;rotate_left;(focus (intro w hSw;go_simp;try with_reducible rfl));try simp only [pt])
             refine pzz ?_;refine dnz ?_;clear hHeld;go_wp2_with fail
             go_meet;exact⟨tb,_,_,rfl,rfl,rfl,Bk.set_at hTb 0 _,hz6,B6.out.setCell (p:=⟨tb,0,none⟩) hz6 _,lies_other Q6.out.1 FR.out,Q6.out.2.1,Q6.out.2.2.1,Q6.out.2.2.2.1,Q6.out.2.2.2.2⟩
           ·skip;have B7:=kp (B0.out.alloc B0.out.size (.cells #[.slice none 0 0] 38));have T7:=kp (Bk.new wd (.cells #[.slice none 0 0] 38));go_simp;refine hK.out _ _ ⟨Bk.on GB.out B7.out,Bk.on XB.out B7.out⟩ (fun hHeld=>?_);clear hK K;try simp only [pt]
            generalize wd.alloc (.cells #[.slice none 0 0] 38)=w7 at *;generalize wd.heap.size=tb at *;refine rd 1 fun K hK=>?_;go_simp
            go_wp2_with (go_at_call 14;refine(HN.out _).mono ?_;rintro e w5 ⟨g5,rfl,hle5,ht5,hb5⟩;have B5:=kp (B7.out.trans (hb5.mono B7.out.size));have T5:=kp (new_lies ht5);have H5:=kp hb5;clear hle5 ht5 hb5)
            refine hK.out _ _ ⟨Bk.on GB.out B5.out,Bk.on XB.out B5.out⟩ (fun hHeld=>?_);clear hK K;try simp only [pt]
            have T8:=kp (Bk.on T7.out H5.out);refine rd 3 fun K hK=>?_;go_simp;have HMx:=kp (HXc2.out _ (SG15.out.on B5.out) _ T5.out (CX15.out.on B5.out))
            go_wp2_with (go_at_call 13;refine HMx.out.mono ?_;rintro e w6 ⟨A',c',rfl,hl6,hle6,hlm6,hlen6,hi6,hb6⟩;have B6:=kp (B5.out.trans (hb6.mono B5.out.size));have Q6:=kp (And.intro hl6 (And.intro hle6 (And.intro hlm6 (And.intro hlen6 hi6))));have H6:=kp hb6;clear hl6 hle6 hlm6 hlen6 hi6 hb6)
            refine hK.out _ _ ⟨Bk.on GB.out B6.out,Bk.on XB.out B6.out⟩ (fun hHeld=>?_);clear hK K;try simp only [pt]
            refine plz [4,5,6,7] ?_;iterate 4 (refine tnz (v:=?_) ?_ ?_;rotate_left;(focus (intro w hSw;go_simp;try with_reducible rfl));try simp only [pt])
            refine pzz ?_;have T9:=kp (Bk.on T8.out H6.out);have hTb:=T9.out;have FR:=kp (far_table Q6.out.1 hTb);obtain ⟨t0,tf⟩:=Bk.c1 hTb;refine rd 9 fun K hK=>?_;go_simp;refine hK.out _ _ (⟨Bk.apart (Bk.on GB.out B6.out) (p:=⟨tb,0,none⟩) (Nat.ne_of_lt (Nat.lt_of_lt_of_le (lt_of_block GB.out) hz0)) _,Bk.apart (Bk.on XB.out B6.out) (p:=⟨tb,0,none⟩) (Nat.ne_of_lt (Nat.lt_of_lt_of_le (lt_of_block XB.out) hz0)) _⟩) (fun hHeld=>?_);clear hK K;try simp only [pt]
            refine plz [10,11] ?_;iterate 2 (refine tnz (v:=?_) ?_ ?_;rotate_left;(focus (intro w hSw;go_simp;try with_reducible rfl));try simp only [pt])
            refine pzz ?_;refine dnz ?_;clear hHeld;go_wp2_with fail
            go_meet;exact⟨tb,_,_,rfl,rfl,rfl,Bk.set_at hTb 0 _,hz0,B6.out.setCell (p:=⟨tb,0,none⟩) hz0 _,lies_other Q6.out.1 FR.out,Q6.out.2.1,Q6.out.2.2.1,Q6.out.2.2.2.1,Q6.out.2.2.2.2⟩
          case rest =>
           obtain ⟨ta,Aa,ca,rfl,rfl,rfl,hTa,hle,hb16,hla,hl1,hl2,hl3,hl4⟩:=hcut;have B16:=kp (B15.out.trans (hb16.mono B15.out.size));have G16:=kp (Bk.on G15.out hb16);have T16:=kp (Bk.on T15.out hb16);have SG16:=kp (SG15.out.on hb16);have XL16:=kp (XL15.out.on hb16);clear hb16 B15 G15 T15 SG15 XL15 C15 CX15 hle hl1 hl2 hl4 HXc2;have TA16:=kp hTa;have LA16:=kp hla;clear hTa hla;generalize hwc:wc=w16 at *;clear hwc;go_upto_region 16 with fail
           go_cut [18,19,13] from 137 to 145 (fun v7 v8 v9 V=>TermCut w16 tv v7 v8 v9 V)
           case first =>
            have GB:=kp G16.out;have XB:=kp T16.out;have B0:=kp (Below.refl w16.heap.size w16).drew;refine wp_region_held_drew (S:=fun V=>V.heap[w.heap.size]?=some (.cells #[.slice A1 g.sorts.length c1,.slice A2 g.funs.length c2,.slice (some ⟨b,ob,none⟩) g.macros.length c3] 26 (0,0))∧V.heap[tl]?=some (.cells #[.int .i8 3,.string { data:=#[] },.slice A7 3 3] 30 (0,0))) (by kernel_rfl) (⟨GB.out,XB.out⟩) (fun hHeld=>?_);refine plz [0,2] ?_;iterate 2 (refine tnz (v:=?_) ?_ ?_;rotate_left;(focus first | ((intro w hSw;(obtain ⟨x0,x1,x2,xf⟩:=Bk.c3 hSw.1;go_simp;try with_reducible rfl));done) | ((intro w hSw;(obtain ⟨x0,x1,x2,xf⟩:=Bk.c3 hSw.2;go_simp;try with_reducible rfl));done));try simp only [pt])
            refine pzz ?_;generalize hwd:World.drew _=wd at *;clear hwd;have hz0:=B0.out.size;refine r2y 1 8 (fun K hK=>?_) fun K hK=>?_
            ·skip;go_simp
             go_wp2_with (go_at_call 14;refine(HN.out _).mono ?_;rintro e w5 ⟨g5,rfl,hle5,ht5,hb5⟩;have B5:=kp (B0.out.trans (hb5.mono B0.out.size));have T5:=kp (new_lies ht5);have H5:=kp hb5;clear hle5 ht5 hb5)
             refine hK.out _ _ ⟨Bk.on GB.out B5.out,Bk.on XB.out B5.out⟩ (fun hHeld=>?_);clear hK K;try simp only [pt]
             refine r2y 3 8 (fun K hK=>?_) fun K hK=>?_
             ·skip;go_simp;have HMx:=kp (HXl.out _ (SG16.out.on B5.out) _ T5.out (XL16.out.on B5.out))
              go_wp2_with (go_at_call 13;refine HMx.out.mono ?_;rintro e w6 ⟨A',c',rfl,hl6,hle6,hlm6,hlen6,hi6,hb6⟩;have B6:=kp (B5.out.trans (hb6.mono B5.out.size));have Q6:=kp (And.intro hl6 (And.intro hle6 (And.intro hlm6 (And.intro hlen6 hi6))));have H6:=kp hb6;clear hl6 hle6 hlm6 hlen6 hi6 hb6)
              refine hK.out _ _ ⟨Bk.on GB.out B6.out,Bk.on XB.out B6.out⟩ (fun hHeld=>?_);clear hK K;try simp only [pt]
              refine plz [4,5,6,7] ?_;iterate 4 (refine tnz (v:=?_) ?_ ?_;rotate_left;(focus (intro w hSw;go_simp;try with_reducible rfl));try simp only [pt])
              refine pzz ?_;have B7:=kp (B6.out.alloc B6.out.size (.cells #[.slice none 0 0] 38));have T7:=kp (Bk.new w6 (.cells #[.slice none 0 0] 38));have Q7:=kp (And.intro (Q6.out.1.on NodeR.lasts ((Below.refl w6.heap.size w6).alloc (Nat.le_refl _) (.cells #[.slice none 0 0] 38))) Q6.out.2);have hz6:=B6.out.size;refine rd 8 fun K hK=>?_;go_simp;refine hK.out _ _ ⟨Bk.on GB.out B7.out,Bk.on XB.out B7.out⟩ (fun hHeld=>?_);clear hK K;try simp only [pt]
              clear B6 Q6 H6;generalize w6.alloc (.cells #[.slice none 0 0] 38)=w7 at *;generalize w6.heap.size=tb at *;have B6:=kp B7.out;have Q6:=kp Q7.out;have hTb:=T7.out;have FR:=kp (far_table Q6.out.1 hTb);obtain ⟨t0,tf⟩:=Bk.c1 hTb;refine rd 9 fun K hK=>?_;go_simp;refine hK.out _ _ (⟨Bk.apart (Bk.on GB.out B6.out) (p:=⟨tb,0,none⟩) (Nat.ne_of_lt (Nat.lt_of_lt_of_le (lt_of_block GB.out) hz6)) _,Bk.apart (Bk.on XB.out B6.out) (p:=⟨tb,0,none⟩) (Nat.ne_of_lt (Nat.lt_of_lt_of_le (lt_of_block XB.out) hz6)) _⟩) (fun hHeld=>?_);clear hK K;try simp only [pt]
              refine plz [10,11] ?_;iterate 2 (refine tnz (v:=?_) ?_ ?_;rotate_left;(focus (intro w hSw;go_simp;try with_reducible rfl));try simp only [pt])
              refine pzz ?_;refine dnz ?_;clear hHeld;go_wp2_with fail
              go_meet;exact⟨tb,_,_,rfl,rfl,rfl,Bk.set_at hTb 0 _,hz6,B6.out.setCell (p:=⟨tb,0,none⟩) hz6 _,lies_other Q6.out.1 FR.out,Q6.out.2.1,Q6.out.2.2.1,Q6.out.2.2.2.1,Q6.out.2.2.2.2⟩
             ·skip;have B7:=kp (B5.out.alloc B5.out.size (.cells #[.slice none 0 0] 38));have T7:=kp (Bk.new w5 (.cells #[.slice none 0 0] 38));have N7:=kp (T5.out.on NodeR.lasts ((Below.refl w5.heap.size w5).alloc (Nat.le_refl _) (.cells #[.slice none 0 0] 38)));have hz6:=B5.out.size;go_simp;refine hK.out _ _ ⟨Bk.on GB.out B7.out,Bk.on XB.out B7.out⟩ (fun hHeld=>?_);clear hK K;try simp only [pt]
              generalize w5.alloc (.cells #[.slice none 0 0] 38)=w7 at *;generalize w5.heap.size=tb at *;refine rd 3 fun K hK=>?_;go_simp;have HMx:=kp (HXl.out _ (SG16.out.on B7.out) _ N7.out (XL16.out.on B7.out))
              go_wp2_with (go_at_call 13;refine HMx.out.mono ?_;rintro e w6 ⟨A',c',rfl,hl6,hle6,hlm6,hlen6,hi6,hb6⟩;have B6:=kp (B7.out.trans (hb6.mono B7.out.size));have Q6:=kp (And.intro hl6 (And.intro hle6 (And.intro hlm6 (And.intro hlen6 hi6))));have H6:=kp hb6;clear hl6 hle6 hlm6 hlen6 hi6 hb6)
              refine hK.out _ _ ⟨Bk.on GB.out B6.out,Bk.on XB.out B6.out⟩ (fun hHeld=>?_);clear hK K;try simp only [pt]
              refine plz [4,5,6,7] ?_;iterate 4 (refine tnz (v:=?_) ?_ ?_;rotate_left;(focus (intro w hSw;go_simp;try with_reducible rfl));try simp only [pt])
              refine pzz ?_;have T8:=kp (Bk.on T7.out H6.out);have hTb:=T8.out;have FR:=kp (far_table Q6.out.1 hTb);obtain ⟨t0,tf⟩:=Bk.c1 hTb;refine rd 9 fun K hK=>?_;go_simp;refine hK.out _ _ (⟨Bk.apart (Bk.on GB.out B6.out) (p:=⟨tb,0,none⟩) (Nat.ne_of_lt (Nat.lt_of_lt_of_le (lt_of_block GB.out) hz6)) _,Bk.apart (Bk.on XB.out B6.out) (p:=⟨tb,0,none⟩) (Nat.ne_of_lt (Nat.lt_of_lt_of_le (lt_of_block XB.out) hz6)) _⟩) (fun hHeld=>?_);clear hK K;try simp only [pt]
              refine plz [10,11] ?_;iterate 2 (refine tnz (v:=?_) ?_ ?_;rotate_left;(focus (intro w hSw;go_simp;try with_reducible rfl));try simp only [pt])
              refine pzz ?_;refine dnz ?_;clear hHeld;go_wp2_with fail
              go_meet;exact⟨tb,_,_,rfl,rfl,rfl,Bk.set_at hTb 0 _,hz6,B6.out.setCell (p:=⟨tb,0,none⟩) hz6 _,lies_other Q6.out.1 FR.out,Q6.out.2.1,Q6.out.2.2.1,Q6.out.2.2.2.1,Q6.out.2.2.2.2⟩
            ·skip;have B7:=kp (B0.out.alloc B0.out.size (.cells #[.slice none 0 0] 38));have T7:=kp (Bk.new wd (.cells #[.slice none 0 0] 38));go_simp;refine hK.out _ _ ⟨Bk.on GB.out B7.out,Bk.on XB.out B7.out⟩ (fun hHeld=>?_);clear hK K;try simp only [pt]
             generalize wd.alloc (.cells #[.slice none 0 0] 38)=w7 at *;generalize wd.heap.size=tb at *;refine rd 1 fun K hK=>?_;go_simp
             go_wp2_with (go_at_call 14;refine(HN.out _).mono ?_;rintro e w5 ⟨g5,rfl,hle5,ht5,hb5⟩;have B5:=kp (B7.out.trans (hb5.mono B7.out.size));have T5:=kp (new_lies ht5);have H5:=kp hb5;clear hle5 ht5 hb5)
             refine hK.out _ _ ⟨Bk.on GB.out B5.out,Bk.on XB.out B5.out⟩ (fun hHeld=>?_);clear hK K;try simp only [pt]
             have T8:=kp (Bk.on T7.out H5.out);refine rd 3 fun K hK=>?_;go_simp;have HMx:=kp (HXl.out _ (SG16.out.on B5.out) _ T5.out (XL16.out.on B5.out))
             go_wp2_with (go_at_call 13;refine HMx.out.mono ?_;rintro e w6 ⟨A',c',rfl,hl6,hle6,hlm6,hlen6,hi6,hb6⟩;have B6:=kp (B5.out.trans (hb6.mono B5.out.size));have Q6:=kp (And.intro hl6 (And.intro hle6 (And.intro hlm6 (And.intro hlen6 hi6))));have H6:=kp hb6;clear hl6 hle6 hlm6 hlen6 hi6 hb6)
             refine hK.out _ _ ⟨Bk.on GB.out B6.out,Bk.on XB.out B6.out⟩ (fun hHeld=>?_);clear hK K;try simp only [pt]
             refine plz [4,5,6,7] ?_;iterate 4 (refine tnz (v:=?_) ?_ ?_;rotate_left;(focus (intro w hSw;go_simp;try with_reducible rfl));try simp only [pt])
             refine pzz ?_;have T9:=kp (Bk.on T8.out H6.out);have hTb:=T9.out;have FR:=kp (far_table Q6.out.1 hTb);obtain ⟨t0,tf⟩:=Bk.c1 hTb;refine rd 9 fun K hK=>?_;go_simp;refine hK.out _ _ (⟨Bk.apart (Bk.on GB.out B6.out) (p:=⟨tb,0,none⟩) (Nat.ne_of_lt (Nat.lt_of_lt_of_le (lt_of_block GB.out) hz0)) _,Bk.apart (Bk.on XB.out B6.out) (p:=⟨tb,0,none⟩) (Nat.ne_of_lt (Nat.lt_of_lt_of_le (lt_of_block XB.out) hz0)) _⟩) (fun hHeld=>?_);clear hK K;try simp only [pt]
             refine plz [10,11] ?_;iterate 2 (refine tnz (v:=?_) ?_ ?_;rotate_left;(focus (intro w hSw;go_simp;try with_reducible rfl));try simp only [pt])
             refine pzz ?_;refine dnz ?_;clear hHeld;go_wp2_with fail
             go_meet;exact⟨tb,_,_,rfl,rfl,rfl,Bk.set_at hTb 0 _,hz0,B6.out.setCell (p:=⟨tb,0,none⟩) hz0 _,lies_other Q6.out.1 FR.out,Q6.out.2.1,Q6.out.2.2.1,Q6.out.2.2.2.1,Q6.out.2.2.2.2⟩
           case rest =>
            obtain ⟨tu,Au,cu,rfl,rfl,rfl,hTu,hle,hb17,hlu,hm1,hm2,hm3,hm4⟩:=hcut;have B17:=kp (B16.out.trans (hb17.mono B16.out.size));have TA17:=kp (Bk.on TA16.out hb17);have LA17:=kp (LA16.out.on NodeR.lasts hb17);clear hb17 B16 TA16 LA16 G16 T16 SG16 XL16 hle hm1 hm2 hm4 HXl;have TU17:=kp hTu;have LU17:=kp hlu;clear hTu hlu;have HSa:=kp (tsame_any ca cu LA17.out LU17.out (by omega));generalize hwc:wc=w17 at *;clear hwc;obtain ⟨a0,af⟩:=Bk.c1 TA17.out;obtain ⟨u0,uf⟩:=Bk.c1 TU17.out;rcases HLw6.out with⟨h40,hn40⟩ | heq
            ·have r1:(tc.2.2 == 40)=true:=by simp [h40]
             have r2:(tv.2.2 != tc.2.2)=true:=by rw [h40];simpa using hn40
             clear h40 hn40 HLw6;go_wp2_with fail
             refine(HWk.out _).mono ?_;rintro e w18 ⟨rfl,hbw⟩;have BW:=kp (B17.out.trans (hbw.mono B17.out.size));clear hbw;go_wp2_with fail
             go_ret;exact⟨rfl,BW.out⟩
            ·subst heq;have r2:(tc.2.2 != tc.2.2)=false:=by simp
             have r3:(tc.2.2 == tc.2.2)=true:=by simp
             have r4:(tc.2.1 == tc.2.1)=true:=by simp
             rw [decide_eq_true (rfl:tc.1=tc.1)] at HSa;clear HLw6
             cases h40:(tc.2.2 == 40)
             all_goals go_wp2_with fail
             all_goals refine HSa.out.mono ?_
             all_goals rintro e w18 ⟨rfl,hb18⟩
             all_goals have B18:=kp (B17.out.trans (hb18.mono B17.out.size))
             all_goals clear hb18
             all_goals go_wp2_with fail
             all_goals refine(HWk.out _).mono ?_
             all_goals rintro e w19 ⟨rfl,hbw⟩
             all_goals have BW:=kp (B18.out.trans (hbw.mono B18.out.size))
             all_goals clear hbw
             all_goals go_wp2_with fail
             all_goals go_ret
             all_goals exact⟨rfl,BW.out⟩
end Go.Proofs.YtpmdcckapddchaaGreat.El
/- ElabMacros: for any input the law answers true, and each argument reads as before: the tied card, of bulk at most 1048576. -/
namespace Go.Proofs.YtpmdcckapddchaaGreat.elabMacros
open Go.RowKit Go.ChangeShapes Go.WideShapes Go.ChangeAt Go.WideMaps Go.WideElems
open Go.ChangeMaps (setBlock shut_map_nil open_string shut_string keptBut_setBlock frozen?_setBlock heap_setBlock_same)
theorem cellsInt:Tryz.prog.cellsOf 3=1:=by kernel_rfl
set_option maxRecDepth 100000 in
theorem contract (H:Type) (enc:TypeId × Value→H) (W:World) (base:Nat) (args:Array Value) (ds gs:List (DataW H)) (before:List MemPlace)
  (hval:∀ (j:Nat) t v,Tryz.f6.params[j]?=some t→args[j]?=some v→Value.okWide Tryz.prog W .any base t v)
  (hW:DataW.Whole enc Tryz.prog Tryz.f6.params.toList Rows.elabMacrosSpec.vars false W args.toList ds gs before) (hR:(DataW.weightsEach Tryz.prog (Tryz.f6.params.toList ++ Rows.elabMacrosSpec.plain.varTypes Tryz.prog) (ds ++ gs)).all (·≤reachBytes)=true) (hk:Rows.uptoSmall H (ds ++ gs)=true) :
  Calls Tryz.prog 6 args W fun e W'=>∃ v,e=.returned v∧Rows.elabMacrosSpec.post enc Tryz.prog Tryz.f6 false true false false W args v W':=by
 have hW':=hW;obtain ⟨p,q,hA0,hV,rfl,hfz,hnd⟩:=hW;have hA:DataW.TrodAll enc Tryz.prog W 0 (fun _=>true) true Tryz.f6.params.toList args.toList ds p:=hA0;have hfit:∀ (j:Nat) t d,Tryz.f6.params.toList[j]?=some t→ds[j]?=some d→Fits Tryz.prog t d:=fun j t d h1 h2=>fits_each (fun m hm=>of_decide_eq_true (List.all_eq_true.1 hR m hm)) j t d (by rw [List.getElem?_append_left (List.getElem?_eq_some_iff.1 h1).1];exact h1) (by rw [List.getElem?_append_left (List.getElem?_eq_some_iff.1 h2).1];exact h2);rw [Tryz.params6] at hfit;rw [Tryz.params6] at hA hval;obtain ⟨v0,vs0,d0,ds0,p0,q0,hargs,rfl,rfl,h0,r0⟩:=trodAll_cons hA;obtain ⟨v1,vs1,d1,ds1,p1,q1,rfl,rfl,rfl,h1,r1⟩:=trodAll_cons r0;obtain ⟨v2,vs2,d2,ds2,p2,q2,rfl,rfl,rfl,h2,r2⟩:=trodAll_cons r1;obtain ⟨rfl,rfl,rfl⟩:=trodAll_nil r2;obtain rfl:args=#[v0,v1,v2]:=by cases args;simp_all
 obtain ⟨g0,A0_0,c0_0,A0_1,c0_1,A0_2,c0_2,rfl,hg0⟩:=Dt.open_sig (hval 0 26 v0 rfl rfl) h0 (hfit 0 26 d0 rfl rfl);obtain ⟨x1,A1,c1,rfl,hx1⟩:=Dt.open_sx (hval 1 30 v1 rfl rfl) h1 (hfit 1 30 d1 rfl rfl);obtain ⟨x2,A2,c2,rfl,hx2⟩:=Dt.open_sx (hval 2 30 v2 rfl rfl) h2 (hfit 2 30 d2 rfl rfl);have hbk:=Dt.bulk_le hk;rw [Dt.bulk_cons,Dt.bulk_cons,Dt.bulk_cons,Dt.bulk_nil] at hbk;have hb1:=Dt.bulk_sexp h1 hx1;have hb2:=Dt.bulk_sexp h2 hx2;have hb3:=Dt.bulk_sigM h0 ⟨_,_,_,_,_,_,rfl,hg0⟩;have hb4:=Dt.bulk_sigP h0 ⟨_,_,_,_,_,_,rfl,hg0⟩;refine(El.macros_all (w:=W) hg0 hx1 hx2 (fun m hm=>by have:=hb3 m hm;omega) (fun m hm=>by have:=hb4 m hm;omega) (by omega) (by omega)).mono fun e W' ⟨he,hb⟩=>⟨_,he,?_⟩;exact law_post laidOut (by kernel_rfl) rfl Tryz.underlying4 rfl rfl hW' hb
noncomputable def laidWorld (os:Os):World:=World.holding Tryz.prog os ⟨#[],#[],[]⟩
theorem laid_met (os:Os):laidMetH Tryz.prog Rows.elabMacrosUptoRow.laid ((laidWorld os).forCall (fun _ _=>0) ⟨#[],#[.agg #[.slice none 0 0,.slice none 0 0,.slice none 0 0],.agg #[.int .i8 0,.string ⟨#[]⟩,.slice none 0 0],.agg #[.int .i8 0,.string ⟨#[]⟩,.slice none 0 0]],[]⟩).memory :=
 laidMetH_of_parts3 (fuel:=8) (laidMet_of_run' 8 (by kernel_rfl) (by kernel_rfl)) (by kernel_rfl) (by kernel_rfl)
theorem reads (os:Os) {H:Type} (enc:TypeId × Value→H):∃ x,DataW.whole enc Tryz.prog ((laidWorld os).forCall (fun _ _=>0) ⟨#[],#[.agg #[.slice none 0 0,.slice none 0 0,.slice none 0 0],.agg #[.int .i8 0,.string ⟨#[]⟩,.slice none 0 0],.agg #[.int .i8 0,.string ⟨#[]⟩,.slice none 0 0]],[]⟩).memory Tryz.f6.params.toList Rows.elabMacrosSpec.vars false #[Value.agg #[.slice none 0 0,.slice none 0 0,.slice none 0 0],.agg #[.int .i8 0,.string ⟨#[]⟩,.slice none 0 0],.agg #[.int .i8 0,.string ⟨#[]⟩,.slice none 0 0]].toList 8=some ([.agg [.nil,.nil,.nil],.agg [.lit (.int .i8 0),.lit (.string []),.nil],.agg [.lit (.int .i8 0),.lit (.string []),.nil]],[],x) :=
 ⟨[],by kernel_rfl⟩
set_option maxRecDepth 100000 in
theorem lifted (os:Os) (started:os.Started) (H:Type) (enc:TypeId × Value→H) (F:Stop.Interp) :
  ReturnsInHanded {} Tryz.checked os 6 .any ((Rows.OpenSpec.upto Rows.elabMacrosSpec).preRow enc Tryz.prog Tryz.f6 Rows.elabMacrosUptoRow.domain false Rows.elabMacrosUptoRow.laid) (((Rows.OpenSpec.upto Rows.elabMacrosSpec).at F).post enc Tryz.prog Tryz.f6 false true false false):=by
 obtain ⟨places,hx⟩:=reads os enc
 refine returnsInHanded_of_row (C:=Tryz.checked) (s:=Rows.OpenSpec.upto Rows.elabMacrosSpec) own started (by kernel_rfl) Tryz.func6
  (witness_row_at (enc:=enc) (C:=Tryz.checked) false (laidWorld os) #[.agg #[.slice none 0 0,.slice none 0 0,.slice none 0 0],.agg #[.int .i8 0,.string ⟨#[]⟩,.slice none 0 0],.agg #[.int .i8 0,.string ⟨#[]⟩,.slice none 0 0]] rfl (by kernel_rfl) (by kernel_rfl) (by kernel_rfl)
   (OpenSpec.preRow_of_cond 8 hx (by kernel_rfl) (fun k hk=>by cases hk;kernel_rfl) (by kernel_rfl) (laid_met os))) ?_
 intro W base args ds gs before hval hW _ hcond hR hL _ _;exact contract H enc W base args ds gs before hval hW hR (hcond _ rfl)
theorem said:Rows.ElabMacrosUptoSaid :=
 OpenClaim.holds_of_cond 6 Tryz.f6 rfl rfl rfl rfl rfl rfl rfl ⟨rfl,rfl,rfl,rfl,rfl⟩ rfl rfl rfl rfl rfl (by kernel_rfl) Tryz.func6 (by kernel_rfl)
  (of_decide_eq_true (by kernel_rfl)) (by unfold Func.isWrapper;first | (rw [if_pos (by decide +kernel)];kernel_rfl) | (rw [if_neg (by decide +kernel)];exact⟨rfl,rfl⟩))
  (fun os started H enc _ F=>by rw [OpenClaim.pre_eq_preRow];exact lifted os started H enc F)
end Go.Proofs.YtpmdcckapddchaaGreat.elabMacros
