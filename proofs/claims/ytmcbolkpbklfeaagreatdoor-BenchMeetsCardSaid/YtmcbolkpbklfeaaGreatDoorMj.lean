import Derived.Test.YtmcbolkpbklfeaaGreatDoorShort
import Derived.Test.YtmcbolkpbklfeaaGreatDoorMf
/- merged by wip/merge.py from: CmdParts2 CmdForms CmdForms2 CmdParts3 CmdForms3 CmdForms4 CmdForms5 CmdBare -/
set_option maxRecDepth 100000
set_option maxHeartbeats 51200000
namespace Go.Proofs.YtmcbolkpbklfeaaGreatDoor
namespace Cm
open Go.RowKit Dt
theorem kind_any {w:World} {pb:Nat} {A:Option Addr} {n c:Nat} {cv:Nat->Value} {b:Bool} (h:ParB w pb (.slice A n c) cv b) (k:Int) (m:Nat) :
  Calls Tryz.prog 111 #[ptrP pb,.int .i8 k,.int .i64 m] w fun e w'=>e=.returned (.tuple #[])/\ParB w' pb (.slice A n c) (upv cv 0 (.int .i8 k)) (b || !decide (n=m))/\KeepP pb w w':=by
 have HA:=kp (show ParB (w.setCell ⟨pb,1,none⟩ (.int .i8 k)) pb (.slice A n c) (upv cv 0 (.int .i8 k)) b from h.setCmd 0 (by omega) _);have HK:=kp (show KeepP pb w (w.setCell ⟨pb,1,none⟩ (.int .i8 k)) from(Keeps.refl (fun k=>k=pb) _).setCell (.inl rfl) _);have HI:=kp (is_any HA.out (decide (n=m)));have hq:((n:Int) == (m:Int))=decide (n=m):=by rw [Bool.eq_iff_iff,beq_iff_eq,decide_eq_true_iff];omega
 have c1:=h.cell 0 (by omega);rw [Nat.add_zero] at c1;have f1:=h.free 1;clear h;unfold ptrP at *;generalize decide (n=m)=q at *
 go_enter Tryz.func111,Tryz.ntmps111
 go_upto_region 1 with fail
 generalize w.setCell ⟨pb,1,none⟩ (.int .i8 k)=w1 at *;have c0:=HA.out.list;go_wp2_with fail
 refine HI.out.mono ?_;rintro e w2 ⟨rfl,h1,h2⟩;have H1:=kp h1;have H2:=kp (HK.out.trans_same h2);clear h1 h2;go_wp2_with fail
 go_end0
 exact⟨rfl,H1.out,H2.out⟩
theorem small_none (x:Sexp) (m:Int):(smallN x m).isNone=!(decide (x.kind=1) && (decide (parseE (Lx.bs x.text)=0) && decide (parseV (Lx.bs x.text)<=m))):=by
 unfold smallN
 by_cases h1:x.kind=1 <;> by_cases h2:parseE (Lx.bs x.text)=0 <;> by_cases h3:parseV (Lx.bs x.text)<=m <;> simp [h1,h2,h3]
theorem par_bad {w:World} {pb:Nat} {L:Value} {cv:Nat->Value} {b b':Bool} (h:ParB w pb L cv b) (e:b=b'):ParB w pb L cv b':=e ▸ h
theorem number_any {w:World} {pb:Nat} {L:Value} {cv:Nat->Value} {b:Bool} (h:ParB w pb L cv b) (x:Sexp) (A:Option Addr) (c:Nat) (ht:(x.text.size:Int)<=140737488351232) (m:Int) :
  Calls Tryz.prog 115 #[ptrP pb,agS x A c,.int .i64 m] w fun e w'=>e=.returned (.int .i64 (parseV (Lx.bs x.text)))/\ParB w' pb L cv (b || (smallN x m).isNone)/\KeepP pb w w':=by
 have HI:=kp (fun W (hW:Below w.heap.size w W)=>is_any (h.below hW) (decide (x.kind=1)));have HJ:=kp (fun W b' (hW:ParB W pb L cv b') q=>is_any hW q);have HP:=kp (fun W=>parse_any x.text (by omega) W);have HS:=kp (small_none x m);have HL:=kp h.lt;unfold ptrP agS at *;have hk2:(x.kind == 1)=decide (x.kind=1):=rfl;replace HS:=kp (show(smallN x m).isNone=!(decide (x.kind=1) && (decide (parseE x.text.data.toList=0) && decide (parseV x.text.data.toList<=m))) from HS.out)
 change Calls _ _ _ _ fun e w'=>e=.returned (.int .i64 (parseV x.text.data.toList))/\_/\_
 generalize (smallN x m).isNone=sn at *;generalize parseE x.text.data.toList=pe at *;generalize parseV x.text.data.toList=pv at *;generalize x.kind=k at *;generalize x.text=t at *;generalize x.l.length=n at *;clear h ht;generalize decide (k=1)=kb at *
 go_enter Tryz.func115,Tryz.ntmps115
 go_wp2_with fail
 refine(HI.out _ ((Below.refl _ _).alloc nlq _)).mono ?_;rintro e w1 ⟨rfl,h1,h2⟩;have HC:=kp (show w1.cell? ⟨w.heap.size,1,none⟩=some (.string t) from(h2.cell (by simp) (by have:=HL.out;show ¬ w.heap.size=pb;omega)).trans (box_cells w _ _ _ _).2.1);have H1:=kp h1;have H2:=kp (((Keeps.refl (fun k=>k=pb) w).alloc _).trans_same h2);clear h1 h2;have hc:=HC.out;go_wp2_with fail
 refine(HP.out _).mono ?_;rintro e w2 ⟨rfl,hb⟩;have H3:=kp (H1.out.below hb);have H4:=kp (show KeepP pb w w2 from H2.out.trans_same (Keeps.of_below hb _));clear hb hc;have hq:(pe == 0)=decide (pe=0):=rfl
 by_cases h0:pe=0
 ·by_cases hm:pv<=m
  ·go_wp2_with fail
   refine(HJ.out _ _ H3.out true).mono ?_;rintro e w3 ⟨rfl,h1,h2⟩;have H5:=kp h1;have H6:=kp (H4.out.trans_same h2);clear h1 h2;go_wp2_with fail
   go_ret;exact⟨rfl,par_bad H5.out (by rw [HS.out];simp [h0,hm]),H6.out⟩
  ·have hm':decide (pv<=m)=false:=dfq hm;go_wp2_with fail
   refine(HJ.out _ _ H3.out false).mono ?_;rintro e w3 ⟨rfl,h1,h2⟩;have H5:=kp h1;have H6:=kp (H4.out.trans_same h2);clear h1 h2;go_wp2_with fail
   go_ret;exact⟨rfl,par_bad H5.out (by rw [HS.out];simp [hm]),H6.out⟩
 ·have h0':(pe == 0)=false:=beq_eq_false_iff_ne.2 h0;go_wp2_with fail
  refine(HJ.out _ _ H3.out false).mono ?_;rintro e w3 ⟨rfl,h1,h2⟩;have H5:=kp h1;have H6:=kp (H4.out.trans_same h2);clear h1 h2;go_wp2_with fail
  go_ret;exact⟨rfl,par_bad H5.out (by rw [HS.out];simp [h0]),H6.out⟩
def zeroV:Nat->Value:=fun i=>match i with
 | 0=>.int .i8 0
 | 1=>.string noS
 | 2=>.int .i64 0
 | 6=>.string noS
 | _=>.slice none 0 0
def cells8 (cv:Nat->Value):List Value:=[cv 0,cv 1,cv 2,cv 3,cv 4,cv 5,cv 6,cv 7]
def Made (w:World) (cv:Nat->Value) (b:Bool) (o:Option Cmd):Prop:=match o with
 | some c=>b=false/\CmdR w (cells8 cv) c
 | none=>b=true
def Stays (lo pb:Nat) (w' W':World):Prop:=Keeps (fun k=>lo<=k/\k < pb) w' W'
theorem stay_below {W0 w' W':World} {pb:Nat} (hb:Below W0.heap.size W0 w') (h:Stays W0.heap.size pb w' W'):Below W0.heap.size W0 W':=hb.trans (h.below (fun _ hk=>hk.1) hb.size)
theorem stay_blk {w' W':World} {lo pb nb:Nat} {o:Obj} (h:w'.heap[nb]?=some o) (hs:Stays lo pb w' W') (hn:pb<=nb):W'.heap[nb]?=some o:=(hs.block nb (lt_of_block h) (fun hk=>by omega)).trans h
def FormPost (lo:Nat) (w:World) (pb:Nat) (L:Value) (o:Option Cmd) (e:Ending) (w':World):Prop :=
 ∃ cv b,e=.returned (.tuple #[])/\ParB w' pb L cv b/\KeepP pb w w'/\∀ W',Stays lo pb w' W'->Made W' cv b o
theorem keepP_below {w w':World} {pb B:Nat} (h:KeepP pb w w') (hp:B<=pb) (hB:B<=w.heap.size):Below B w w':=h.below (fun k e=>by subst e;exact hp) hB
theorem cmdR_zero (w:World) (c:Cmd) (hl:c.l=[]) (ha:c.args=[]) (hp:c.params=[]) (ht:c.terms=[]) (hk:(Lit.int .i8 c.kind).wf=true) (hn:I64 c.n) (h1:(c.name.size:Int)<=140737488351232) (h2:(c.res.size:Int)<=140737488351232) :
  CmdR w [.int .i8 c.kind,.string c.name,.int .i64 c.n,.slice none 0 0,.slice none 0 0,.slice none 0 0,.string c.res,.slice none 0 0] c:=by
 refine⟨none,0,none,0,none,0,none,0,by unfold cmdCells;rw [hl,ha,hp,ht];rfl,?_⟩;refine⟨.inl hl,.inl ha,.inl hp,.inl ht,by rw [hl];exact nlq,by rw [ha];exact nlq,by rw [hp];exact nlq,by rw [ht];exact nlq,Nat.zero_le _,Nat.zero_le _,Nat.zero_le _,Nat.zero_le _,by rw [ht];exact Nat.zero_le _,hk,hn,h1,h2⟩
theorem partS_size {W:World} {A:Option Addr} {xs:List Sexp} (hx:Lies 3 SexpR W A xs) (k:Nat):((partS xs k).text.size:Int)<=140737488351232:=by
 unfold partS
 cases hk:xs[k]? with
 | none=>exact(by decide:((noS.size:Nat):Int)<=140737488351232)
 | some y =>
  obtain ⟨_,_,vs,_,_,_,_,hr⟩:=hx.at' hk;obtain ⟨_,_,_,_,_,_,h1,_⟩:=hr.open';exact h1
theorem two_of {xs:List Sexp} (h:xs.length=2):∃ a b,xs=[a,b]:=by
 match xs,h with
 | [a,b],_=>exact⟨a,b,rfl⟩
theorem oneO_not {r:List Sexp} {f:Sexp->Option Cmd} (h:r.length≠1):oneO r f=none:=by
 unfold oneO
 split
 ·exact absurd rfl h
 ·rfl
def oSym (k:Int) (x:Sexp):Option Cmd:=(symN x).map fun t=>{ noCmd with kind:=k,name:=t }
def oNum (k:Int) (x:Sexp):Option Cmd:=(smallN x 8).map fun n=>{ noCmd with kind:=k,n:=n }
theorem logic_any {W0 w:World} {pb:Nat} {A:Option Addr} {c:Nat} {xs:List Sexp} (h:ParB w pb (.slice A xs.length c) zeroV false) (hx:Lies 3 SexpR W0 A xs) (hb:Below W0.heap.size W0 w) (hp:W0.heap.size<=pb) :
  Calls Tryz.prog 70 #[ptrP pb] w (FormPost W0.heap.size w pb (.slice A xs.length c) (oneO xs.tail (oSym 0))):=by
 have HK:=kp (kind_any h 0 2);have HJ:=kp (fun W cv b (hW:ParB W pb (.slice A xs.length c) cv b) (hB:Below W0.heap.size W0 W)=>part_any hW hx hB 1);have HS:=kp (fun W cv b (hW:ParB W pb (.slice A xs.length c) cv b) A' c'=>symbol_any hW (partS xs 1) A' c');have HB:=kp hb;have HT:=kp (partS_size hx 1)
 have HE:=kp (show ∀ w' cv,cells8 cv=[.int .i8 0,.string (partS xs 1).text,.int .i64 0,.slice none 0 0,.slice none 0 0,.slice none 0 0,.string noS,.slice none 0 0]->Made w' cv (((false || !decide (xs.length=2)) || decide (xs.length<=1)) || !decide ((partS xs 1).kind=0)) (oneO xs.tail (oSym 0)) from fun w' cv hcv=>by
  by_cases h2:xs.length=2
  ·obtain ⟨y,x,rfl⟩:=two_of h2;show Made w' cv _ (oSym 0 x);unfold oSym symN
   by_cases hk:x.kind=0
   ·rw [if_pos hk];refine⟨by simp [partS,hk],?_⟩;rw [hcv];exact cmdR_zero w' { noCmd with kind:=0,name:=x.text } rfl rfl rfl rfl (show(Lit.int .i8 0).wf=true by decide) (show I64 0 from⟨by decide,by decide⟩) HT.out (show((noS.size:Nat):Int)<=140737488351232 by decide)
   ·rw [if_neg hk];show _=true;simp [partS,hk]
  ·rw [oneO_not (by rw [List.length_tail];omega)];show _=true;simp [h2])
 clear h hx hb;unfold ptrP at *
 go_enter Tryz.func70,Tryz.ntmps70
 go_wp2_with fail
 refine HK.out.mono ?_;rintro e w1 ⟨rfl,h1,k1⟩;have P1:=kp h1;have K1:=kp k1;have B1:=kp (HB.out.trans (keepP_below k1 hp HB.out.size));clear h1 k1;go_wp2_with fail
 refine(HJ.out _ _ _ P1.out B1.out).mono ?_;rintro e w2 ⟨A2,c2,⟨rfl,r2⟩,h2,k2⟩;have P2:=kp h2;have K2:=kp (K1.out.trans_same k2);clear h2 k2 r2;go_wp2_with fail
 refine(HS.out _ _ _ P2.out A2 c2).mono ?_;rintro e w3 ⟨rfl,h3,k3⟩;have P3:=kp h3;have K3:=kp (K2.out.trans_same k3);have f2:=h3.free 2;have d2:=h3.cell 1 (by omega);clear h3 k3;go_wp2_with fail
 go_end0
 exact⟨_,_,rfl,P3.out.setCmd 1 (by omega) _,K3.out.setCell (.inl rfl) _,fun W' _=>HE.out W' _ rfl⟩
theorem push_raw {W0 w:World} {pb:Nat} {A:Option Addr} {c:Nat} {xs:List Sexp} (h:ParB w pb (.slice A xs.length c) zeroV false) (hx:Lies 3 SexpR W0 A xs) (hb:Below W0.heap.size W0 w) (hp:W0.heap.size<=pb) :
  Calls Tryz.prog 76 #[ptrP pb] w fun e w'=>e=.returned (.tuple #[])/\ParB w' pb (.slice A xs.length c) (upv (upv zeroV 0 (.int .i8 6)) 2 (.int .i64 (parseV (Lx.bs (partS xs 1).text)))) (((false || !decide (xs.length=2)) || decide (xs.length<=1)) || (smallN (partS xs 1) 8).isNone)/\KeepP pb w w':=by
 have HK:=kp (kind_any h 6 2);have HJ:=kp (fun W cv b (hW:ParB W pb (.slice A xs.length c) cv b) (hB:Below W0.heap.size W0 W)=>part_any hW hx hB 1);have HS:=kp (fun W cv b (hW:ParB W pb (.slice A xs.length c) cv b) A' c'=>number_any hW (partS xs 1) A' c' (partS_size hx 1) 8);have HB:=kp hb;clear h hx hb;unfold ptrP at *
 go_enter Tryz.func76,Tryz.ntmps76
 go_wp2_with fail
 refine HK.out.mono ?_;rintro e w1 ⟨rfl,h1,k1⟩;have P1:=kp h1;have K1:=kp k1;have B1:=kp (HB.out.trans (keepP_below k1 hp HB.out.size));clear h1 k1;go_wp2_with fail
 refine(HJ.out _ _ _ P1.out B1.out).mono ?_;rintro e w2 ⟨A2,c2,⟨rfl,r2⟩,h2,k2⟩;have P2:=kp h2;have K2:=kp (K1.out.trans_same k2);clear h2 k2 r2;go_wp2_with fail
 refine(HS.out _ _ _ P2.out A2 c2).mono ?_;rintro e w3 ⟨rfl,h3,k3⟩;have P3:=kp h3;have K3:=kp (K2.out.trans_same k3);have f2:=h3.free 3;have d2:=h3.cell 2 (by omega);clear h3 k3;go_wp2_with fail
 go_end0
 exact⟨rfl,P3.out.setCmd 2 (by omega) _,K3.out.setCell (.inl rfl) _⟩
theorem small_some {x:Sexp} {m n:Int} (h:smallN x m=some n):n=parseV (Lx.bs x.text)/\0<=n/\n<=m:=by
 unfold smallN at h
 split at h
 ·rename_i hc
  obtain rfl:=Option.some.inj h;have:=(text_of_parse hc.2.1).1;exact⟨rfl,this,hc.2.2⟩
 ·cases h
theorem num_made {w':World} {xs:List Sexp} {cv:Nat->Value} (k:Int) (hk:(Lit.int .i8 k).wf=true) (hcv:cells8 cv=[.int .i8 k,.string noS,.int .i64 (parseV (Lx.bs (partS xs 1).text)),.slice none 0 0,.slice none 0 0,.slice none 0 0,.string noS,.slice none 0 0]) :
  Made w' cv (((false || !decide (xs.length=2)) || decide (xs.length<=1)) || (smallN (partS xs 1) 8).isNone) (oneO xs.tail (oNum k)):=by
 by_cases h2:xs.length=2
 ·obtain ⟨y,x,rfl⟩:=two_of h2;show Made w' cv _ (oNum k x);unfold oNum
  cases hs:smallN x 8 with
  | none =>
   show _=true;simp [partS,hs]
  | some n =>
   obtain ⟨e,h0,h8⟩:=small_some hs;refine⟨by simp [partS,hs],?_⟩;rw [hcv,show parseV (Lx.bs (partS [y,x] 1).text)=n from e.symm];exact cmdR_zero w' { noCmd with kind:=k,n:=n } rfl rfl rfl rfl hk (show I64 n from⟨by omega,by omega⟩) (show((noS.size:Nat):Int)<=140737488351232 by decide) (show((noS.size:Nat):Int)<=140737488351232 by decide)
 ·rw [oneO_not (by rw [List.length_tail];omega)];show _=true;simp [h2]
theorem push_any {W0 w:World} {pb:Nat} {A:Option Addr} {c:Nat} {xs:List Sexp} (h:ParB w pb (.slice A xs.length c) zeroV false) (hx:Lies 3 SexpR W0 A xs) (hb:Below W0.heap.size W0 w) (hp:W0.heap.size<=pb) :
  Calls Tryz.prog 76 #[ptrP pb] w (FormPost W0.heap.size w pb (.slice A xs.length c) (oneO xs.tail (oNum 6))):=by
 refine(push_raw h hx hb hp).mono ?_;rintro e w1 ⟨rfl,h1,k1⟩;exact⟨_,_,rfl,h1,k1,fun _ _=>num_made 6 (by decide) rfl⟩
theorem pop_any {W0 w:World} {pb:Nat} {A:Option Addr} {c:Nat} {xs:List Sexp} (h:ParB w pb (.slice A xs.length c) zeroV false) (hx:Lies 3 SexpR W0 A xs) (hb:Below W0.heap.size W0 w) (hp:W0.heap.size<=pb) :
  Calls Tryz.prog 77 #[ptrP pb] w (FormPost W0.heap.size w pb (.slice A xs.length c) (oneO xs.tail (oNum 7))):=by
 have HR:=kp (push_raw h hx hb hp);have HE:=kp (fun w' cv=>num_made (w':=w') (xs:=xs) (cv:=cv) 7 (by decide));clear h hx hb;unfold ptrP at *
 go_enter Tryz.func77,Tryz.ntmps77
 go_wp2_with fail
 refine HR.out.mono ?_;rintro e w1 ⟨rfl,h1,k1⟩;have P1:=kp h1;have K1:=kp k1;have f1:=h1.free 1;have d1:=h1.cell 0 (by omega);rw [Nat.add_zero] at d1;clear h1 k1;go_wp2_with fail
 go_end0
 exact⟨_,_,rfl,P1.out.setCmd 0 (by omega) _,K1.out.setCell (.inl rfl) _,fun W' _=>HE.out W' _ rfl⟩
theorem bareO_not {r:List Sexp} {k:Int} (h:r.length≠0):bareO r k=none:=by
 unfold bareO
 split
 ·exact absurd rfl h
 ·rfl
theorem bare1_any {lo:Nat} {w:World} {pb:Nat} {A:Option Addr} {c q1 q2:Nat} {xs:List Sexp} (h:ParB w pb (.slice A xs.length c) zeroV false) (k:Int) (hk:(Lit.int .i8 k).wf=true) (hq1:w.cell? ⟨q1,0,none⟩=some (ptrP pb)) (hq2:w.cell? ⟨q2,0,none⟩=some (.int .i8 k)) (h0:0 < xs.length) :
  Calls Tryz.prog 118 #[.pointer (some ⟨q1,0,none⟩),.pointer (some ⟨q2,0,none⟩)] w (FormPost lo w pb (.slice A xs.length c) (bareO xs.tail k)):=by
 have HK:=kp (kind_any h k 1)
 have HE:=kp (show ∀ w' cv,cells8 cv=[.int .i8 k,.string noS,.int .i64 0,.slice none 0 0,.slice none 0 0,.slice none 0 0,.string noS,.slice none 0 0]->Made w' cv (false || !decide (xs.length=1)) (bareO xs.tail k) from fun w' cv hcv=>by
  by_cases h2:xs.length=1
  ·have e:xs.tail=[]:=List.length_eq_zero_iff.1 (by rw [List.length_tail];omega);rw [e];refine⟨by simp [h2],?_⟩;rw [hcv];exact cmdR_zero w' { noCmd with kind:=k } rfl rfl rfl rfl hk (show I64 0 from⟨by decide,by decide⟩) (show((noS.size:Nat):Int)<=140737488351232 by decide) (show((noS.size:Nat):Int)<=140737488351232 by decide)
  ·rw [bareO_not (by rw [List.length_tail];omega)];show _=true;simp [h2])
 clear h h0;unfold ptrP at *
 go_enter Tryz.func118,Tryz.ntmps118
 go_wp2_with fail
 refine HK.out.mono ?_;rintro e w1 ⟨rfl,h1,k1⟩;have P1:=kp h1;have K1:=kp k1;clear h1 k1;go_wp2_with fail
 go_end0
 exact⟨_,_,rfl,P1.out,K1.out,fun W' _=>HE.out W' _ rfl⟩
def sized (x:Sexp) (lo hi:Nat):Bool:=decide (x.kind=3) && (decide (lo<=x.l.length) && decide (x.l.length<=hi))
theorem list_any {w:World} {pb:Nat} {L:Value} {cv:Nat->Value} {b:Bool} (h:ParB w pb L cv b) (x:Sexp) (A:Option Addr) (c:Nat) (lo hi:Nat) (_hn:(x.l.length:Int)<=9223372036854775807) :
  Calls Tryz.prog 116 #[ptrP pb,agS x A c,.int .i64 lo,.int .i64 hi] w fun e w'=>e=.returned (if b || !sized x lo hi then .slice none 0 0 else .slice A x.l.length c)/\ParB w' pb L cv (b || !sized x lo hi)/\KeepP pb w w':=by
 have HJ:=kp (fun W (hW:Below w.heap.size w W) q=>is_any (h.below hW) q);have HL:=kp h.lt;unfold ptrP agS sized at *;have hk2:(x.kind == 3)=decide (x.kind=3):=rfl;generalize x.text=t at *;generalize x.l.length=n at *
 by_cases h3:x.kind=3
 ·rw [h3];rw [decide_eq_true (rfl:(3:Int)=3),Bool.true_and];clear hk2 h3 h
  by_cases h4:lo<=n
  ·rw [decide_eq_true h4,Bool.true_and];have h4':((n:Int) ≥ (lo:Int)):=by omega
   have h4b:((lo:Int)<=(n:Int)):=by omega
   by_cases h5:n<=hi
   ·have h5':((n:Int)<=(hi:Int)):=by omega
    rw [decide_eq_true h5,Bool.not_true,Bool.or_false]
    go_enter Tryz.func116,Tryz.ntmps116
    go_wp2_with fail
    refine(HJ.out _ ((Below.refl _ _).alloc nlq _) true).mono ?_;rintro e w1 ⟨rfl,h1,h2⟩;have HC:=kp (show w1.cell? ⟨w.heap.size,2,none⟩=some (.slice A n c) from(h2.cell (by simp) (by have:=HL.out;show ¬ w.heap.size=pb;omega)).trans (box_cells w _ _ _ _).2.2.1);have H2:=kp (((Keeps.refl (fun k=>k=pb) w).alloc _).trans_same h2);have hc:=HC.out;clear h2;have H1:=kp (show ParB w1 pb L cv b by simpa using h1);clear h1;have hb9:=H1.out.badc
    cases b
    all_goals
     go_wp2_with fail
     go_ret;exact⟨rfl,H1.out,H2.out⟩
   ·have h5':decide ((n:Int)<=(hi:Int))=false:=dfq (by omega);rw [dfq h5,Bool.not_false,Bool.or_true]
    go_enter Tryz.func116,Tryz.ntmps116
    go_wp2_with fail
    refine(HJ.out _ ((Below.refl _ _).alloc nlq _) false).mono ?_;rintro e w1 ⟨rfl,h1,h2⟩;have HC:=kp (show w1.cell? ⟨w.heap.size,2,none⟩=some (.slice A n c) from(h2.cell (by simp) (by have:=HL.out;show ¬ w.heap.size=pb;omega)).trans (box_cells w _ _ _ _).2.2.1);have H2:=kp (((Keeps.refl (fun k=>k=pb) w).alloc _).trans_same h2);have hc:=HC.out;clear h2;have H1:=kp (show ParB w1 pb L cv true by simpa using h1);clear h1;have hb9:=H1.out.badc;go_wp2_with fail
    go_ret;exact⟨rfl,H1.out,H2.out⟩
  ·rw [dfq h4,Bool.false_and,Bool.not_false,Bool.or_true];have h4':decide ((lo:Int)<=(n:Int))=false:=dfq (by omega);have h4b:decide ((n:Int) ≥ (lo:Int))=false:=dfq (by omega)
   go_enter Tryz.func116,Tryz.ntmps116
   go_wp2_with fail
   refine(HJ.out _ ((Below.refl _ _).alloc nlq _) false).mono ?_;rintro e w1 ⟨rfl,h1,h2⟩;replace h1:ParB w1 pb L cv true:=by simpa using h1
   have H1:=kp h1;have H2:=kp (((Keeps.refl (fun k=>k=pb) w).alloc _).trans_same h2);clear h1 h2;have hb9:=H1.out.badc;go_wp2_with fail
   go_ret;exact⟨rfl,H1.out,H2.out⟩
 ·have h3':(x.kind == 3)=false:=beq_eq_false_iff_ne.2 h3;rw [dfq h3,Bool.false_and,Bool.not_false,Bool.or_true];generalize x.kind=k at *;clear h hk2
  go_enter Tryz.func116,Tryz.ntmps116
  go_wp2_with fail
  refine(HJ.out _ ((Below.refl _ _).alloc nlq _) false).mono ?_;rintro e w1 ⟨rfl,h1,h2⟩;replace h1:ParB w1 pb L cv true:=by simpa using h1
  have H1:=kp h1;have H2:=kp (((Keeps.refl (fun k=>k=pb) w).alloc _).trans_same h2);clear h1 h2;have hb9:=H1.out.badc;go_wp2_with fail
  go_ret;exact⟨rfl,H1.out,H2.out⟩
theorem three_of {xs:List Sexp} (h:xs.length=3):∃ a b c,xs=[a,b,c]:=by
 match xs,h with
 | [a,b,c],_=>exact⟨a,b,c,rfl⟩
theorem sort_made {W0 w':World} {A:Option Addr} {xs:List Sexp} {cv:Nat->Value} (hx:Lies 3 SexpR W0 A xs) (hcv:cells8 cv=[.int .i8 2,.string (partS xs 1).text,.int .i64 0,.slice none 0 0,.slice none 0 0,.slice none 0 0,.string noS,.slice none 0 0]) :
  Made w' cv (((((false || !decide (xs.length=3)) || decide (xs.length<=1)) || !decide ((partS xs 1).kind=0)) || decide (xs.length<=2)) || (smallN (partS xs 2) 0).isNone) (sortO xs.tail):=by
 by_cases h3:xs.length=3
 ·have ht:=partS_size hx 1;obtain ⟨y,s,x,rfl⟩:=three_of h3;show Made w' cv _ ((symN s).bind fun t=>(smallN x 0).map fun _=>{ noCmd with kind:=2,name:=t });unfold symN
  by_cases hk:s.kind=0
  ·rw [if_pos hk]
   cases hs:smallN x 0 with
   | none =>
    show _=true;simp [partS,hs]
   | some n =>
    refine⟨by simp [partS,hs,hk],?_⟩;rw [hcv];exact cmdR_zero w' { noCmd with kind:=2,name:=s.text } rfl rfl rfl rfl (show(Lit.int .i8 2).wf=true by decide) (show I64 0 from⟨by decide,by decide⟩) ht (show((noS.size:Nat):Int)<=140737488351232 by decide)
  ·rw [if_neg hk];show _=true;simp [partS,hk]
 ·have e:sortO xs.tail=none:=by
   unfold sortO
   split
   ·rename_i he
    exact absurd (by have:=congrArg List.length he;rw [List.length_tail] at this;simp at this;omega) h3
   ·rfl
  rw [e];show _=true;simp [h3]
theorem sort_any {W0 w:World} {pb:Nat} {A:Option Addr} {c:Nat} {xs:List Sexp} (h:ParB w pb (.slice A xs.length c) zeroV false) (hx:Lies 3 SexpR W0 A xs) (hb:Below W0.heap.size W0 w) (hp:W0.heap.size<=pb) :
  Calls Tryz.prog 72 #[ptrP pb] w (FormPost W0.heap.size w pb (.slice A xs.length c) (sortO xs.tail)):=by
 have HK:=kp (kind_any h 2 3);have HJ:=kp (fun W cv b (hW:ParB W pb (.slice A xs.length c) cv b) (hB:Below W0.heap.size W0 W)=>part_any hW hx hB 1);have HJ2:=kp (fun W cv b (hW:ParB W pb (.slice A xs.length c) cv b) (hB:Below W0.heap.size W0 W)=>part_any hW hx hB 2);have HS:=kp (fun W cv b (hW:ParB W pb (.slice A xs.length c) cv b) A' c'=>symbol_any hW (partS xs 1) A' c');have HN:=kp (fun W cv b (hW:ParB W pb (.slice A xs.length c) cv b) A' c'=>number_any hW (partS xs 2) A' c' (partS_size hx 2) 0);have HB:=kp hb;have HE:=kp (fun w' cv=>sort_made (w':=w') (cv:=cv) hx);clear h hx hb;unfold ptrP at *
 go_enter Tryz.func72,Tryz.ntmps72
 go_wp2_with fail
 refine HK.out.mono ?_;rintro e w1 ⟨rfl,h1,k1⟩;have P1:=kp h1;have K1:=kp k1;have B1:=kp (HB.out.trans (keepP_below k1 hp HB.out.size));clear h1 k1;go_wp2_with fail
 refine(HJ.out _ _ _ P1.out B1.out).mono ?_;rintro e w2 ⟨A2,c2,⟨rfl,r2⟩,h2,k2⟩;have P2:=kp h2;have K2:=kp (K1.out.trans_same k2);clear h2 k2 r2;go_wp2_with fail
 refine(HS.out _ _ _ P2.out A2 c2).mono ?_;rintro e w3 ⟨rfl,h3,k3⟩;have P3:=kp (show ParB (w3.setCell ⟨pb,2,none⟩ (.string (partS xs 1).text)) pb _ _ _ from h3.setCmd 1 (by omega) _);have K3:=kp (show KeepP pb w (w3.setCell ⟨pb,2,none⟩ (.string (partS xs 1).text)) from(K2.out.trans_same k3).setCell (.inl rfl) _);have f2:=h3.free 2;have d2:=h3.cell 1 (by omega);clear h3 k3;go_upto_region 2 with fail
 generalize w3.setCell ⟨pb,2,none⟩ (.string (partS xs 1).text)=w4 at *;have B4:=kp (HB.out.trans (keepP_below K3.out hp HB.out.size));go_wp2_with fail
 refine(HJ2.out _ _ _ P3.out B4.out).mono ?_;rintro e w5 ⟨A5,c5,⟨rfl,r5⟩,h5,k5⟩;have P5:=kp h5;have K5:=kp (K3.out.trans_same k5);clear h5 k5 r5;go_wp2_with fail
 refine(HN.out _ _ _ P5.out A5 c5).mono ?_;rintro e w6 ⟨rfl,h6,k6⟩;have P6:=kp h6;have K6:=kp (K5.out.trans_same k6);clear h6 k6;go_wp2_with fail
 go_end0
 exact⟨_,_,rfl,P6.out,K6.out,fun W' _=>HE.out W' _ rfl⟩
theorem cmdR_terms {w:World} {A:Option Addr} {n:Nat} (c:Cmd) (hl:c.l=[]) (ha:c.args=[]) (hp:c.params=[]) (ht:Lies 3 SexpR w A c.terms) (hn1:c.terms.length<=n) (hn2:n<=maxLen) (hn3:c.terms.length * 48<=140737488351232) (hk:(Lit.int .i8 c.kind).wf=true) (hn:I64 c.n) (h1:(c.name.size:Int)<=140737488351232) (h2:(c.res.size:Int)<=140737488351232) :
  CmdR w [.int .i8 c.kind,.string c.name,.int .i64 c.n,.slice none 0 0,.slice none 0 0,.slice none 0 0,.string c.res,.slice A c.terms.length n] c:=by
 refine⟨none,0,none,0,none,0,A,n,by unfold cmdCells;rw [hl,ha,hp];rfl,?_⟩;refine⟨.inl hl,.inl ha,.inl hp,ht,by rw [hl];exact nlq,by rw [ha];exact nlq,by rw [hp];exact nlq,hn1,Nat.zero_le _,Nat.zero_le _,Nat.zero_le _,hn2,hn3,hk,hn,h1,h2⟩
theorem value_made {W0 w':World} {A2:Option Addr} {c2:Nat} {xs:List Sexp} {cv:Nat->Value} (hr:SexpR W0 [.int .i8 (partS xs 1).kind,.string (partS xs 1).text,.slice A2 (partS xs 1).l.length c2] (partS xs 1)) (hb:Below W0.heap.size W0 w')
  (hcv:cells8 cv=[.int .i8 10,.string noS,.int .i64 0,.slice none 0 0,.slice none 0 0,.slice none 0 0,.string noS,(if((false || !decide (xs.length=2)) || decide (xs.length<=1)) || !sized (partS xs 1) 1 16 then .slice none 0 0 else .slice A2 (partS xs 1).l.length c2)]) :
  Made w' cv (((false || !decide (xs.length=2)) || decide (xs.length<=1)) || !sized (partS xs 1) 1 16) (valueO xs.tail):=by
 by_cases h2:xs.length=2
 ·obtain ⟨y,x,rfl⟩:=two_of h2;obtain ⟨A',c',e,hl,hc,hm,_,hlb,_⟩:=hr.open';simp only [List.cons.injEq,Value.slice.injEq,and_true,true_and] at e;obtain ⟨rfl,rfl⟩:=e;show Made w' cv _ ((listN x).bind fun l=>if 1<=l.length/\l.length<=16 then some { noCmd with kind:=10,terms:=l } else none);replace hl:Lies 3 SexpR W0 A2 x.l:=hl;replace hc:x.l.length<=c2:=hc;replace hlb:x.l.length * 48<=140737488351232:=hlb;replace hcv:cells8 cv=[.int .i8 10,.string noS,.int .i64 0,.slice none 0 0,.slice none 0 0,.slice none 0 0,.string noS,(if(!sized x 1 16)=true then .slice none 0 0 else .slice A2 x.l.length c2)]:=hcv
  change Made w' cv (!sized x 1 16) _
  unfold listN
  by_cases hk:x.kind=3
  ·rw [if_pos hk];show Made w' cv _ (if 1<=x.l.length/\x.l.length<=16 then _ else none)
   by_cases hs:1<=x.l.length/\x.l.length<=16
   ·have hz:sized x 1 16=true:=by unfold sized;simp [hk,hs.1,hs.2]
    rw [if_pos hs];rw [hz] at hcv ⊢;refine⟨rfl,?_⟩;rw [hcv];exact cmdR_terms { noCmd with kind:=10,terms:=x.l } rfl rfl rfl (hl.on SexpR.lasts hb) hc hm hlb (show(Lit.int .i8 10).wf=true by decide) (show I64 0 from⟨by decide,by decide⟩) (show((noS.size:Nat):Int)<=140737488351232 by decide) (show((noS.size:Nat):Int)<=140737488351232 by decide)
   ·have hz:sized x 1 16=false:=by unfold sized;rw [Bool.and_eq_false_iff];right;rw [Bool.and_eq_false_iff,decide_eq_false_iff_not,decide_eq_false_iff_not];omega
    rw [if_neg hs,hz];exact(rfl:(!false)=true)
  ·have hz:sized x 1 16=false:=by unfold sized;simp [hk]
   rw [if_neg hk,hz];exact(rfl:(!false)=true)
 ·have e:valueO xs.tail=none:=by
   unfold valueO
   split
   ·rename_i he
    exact absurd (by have:=congrArg List.length he;rw [List.length_tail] at this;simp at this;omega) h2
   ·rfl
  rw [e];show _=true;simp [h2]
theorem value_any {W0 w:World} {pb:Nat} {A:Option Addr} {c:Nat} {xs:List Sexp} (h:ParB w pb (.slice A xs.length c) zeroV false) (hx:Lies 3 SexpR W0 A xs) (hb:Below W0.heap.size W0 w) (hp:W0.heap.size<=pb) :
  Calls Tryz.prog 78 #[ptrP pb] w (FormPost W0.heap.size w pb (.slice A xs.length c) (valueO xs.tail)):=by
 have HK:=kp (kind_any h 10 2);have HJ:=kp (fun W cv b (hW:ParB W pb (.slice A xs.length c) cv b) (hB:Below W0.heap.size W0 W)=>part_any hW hx hB 1);have HS:=kp (fun W cv b (hW:ParB W pb (.slice A xs.length c) cv b) A' c' hn=>list_any hW (partS xs 1) A' c' 1 16 hn);have HB:=kp hb;have HE:=kp (fun w' cv A2 c2 hr hq=>value_made (W0:=W0) (w':=w') (xs:=xs) (cv:=cv) (A2:=A2) (c2:=c2) hr hq);clear h hx hb;unfold ptrP at *
 go_enter Tryz.func78,Tryz.ntmps78
 go_wp2_with fail
 refine HK.out.mono ?_;rintro e w1 ⟨rfl,h1,k1⟩;have P1:=kp h1;have K1:=kp k1;have B1:=kp (HB.out.trans (keepP_below k1 hp HB.out.size));clear h1 k1;go_wp2_with fail
 refine(HJ.out _ _ _ P1.out B1.out).mono ?_;rintro e w2 ⟨A2,c2,⟨rfl,r2⟩,h2,k2⟩;have P2:=kp h2;have K2:=kp (K1.out.trans_same k2);have R2:=kp r2
 have hlen:((partS xs 1).l.length:Int)<=9223372036854775807:=by
  obtain ⟨_,_,_,_,_,_,_,h48,_⟩:=r2.open'
  omega
 clear h2 k2 r2;go_wp2_with fail
 refine(HS.out _ _ _ P2.out A2 c2 hlen).mono ?_;rintro e w3 ⟨rfl,h3,k3⟩;have P3:=kp h3;have K3:=kp (K2.out.trans_same k3);have f8:=h3.free 8;have d8:=h3.cell 7 (by omega);clear h3 k3;generalize hV:(if(((false || !decide (xs.length=2)) || decide (xs.length<=1)) || !sized (partS xs 1) 1 16)=true then Value.slice none 0 0 else Value.slice A2 (partS xs 1).l.length c2)=V at *;obtain ⟨Av,nv,cn,rfl⟩:∃ Av nv cn,V=.slice Av nv cn:=by rw [← hV];split <;> exact⟨_,_,_,rfl⟩
 go_wp2_with fail
 go_end0
 have KE:=K3.out.setCell (p:=⟨pb,8,none⟩) (.inl rfl) (.slice Av nv cn);exact⟨_,_,rfl,P3.out.setCmd 7 (by omega) _,KE,fun W' hW=>HE.out W' _ A2 c2 R2.out (stay_below (HB.out.trans (keepP_below KE hp HB.out.size)) hW) (by rw [hV];rfl)⟩
def oAssert (x:Sexp):Option Cmd:=some { noCmd with kind:=5,terms:=[x] }
theorem lies_one {w:World} {nb:Nat} {x:Sexp} {A2:Option Addr} {c2:Nat} (hb:w.heap[nb]?=some (.cells #[.int .i8 x.kind,.string x.text,.slice A2 x.l.length c2] 81 (0,0))) (hr:SexpR w [.int .i8 x.kind,.string x.text,.slice A2 x.l.length c2] x):Lies 3 SexpR w (some ⟨nb,0,none⟩) [x]:=by
 refine .inr ⟨nb,0,rfl,lt_of_block hb,fun i y hy=>?_⟩;have hi:i=0:=by have:=(gqs hy).1;simpa using this
 subst hi;simp at hy;subst hy;refine⟨_,rfl,fun j u hu=>?_,hr⟩;rw [show 0+0 * 3+j=j by omega,cell_of_cells hb]
 simpa using hu
theorem assert_made {W0 w':World} {A2:Option Addr} {c2 nb:Nat} {xs:List Sexp} {cv:Nat->Value} (hr:SexpR W0 [.int .i8 (partS xs 1).kind,.string (partS xs 1).text,.slice A2 (partS xs 1).l.length c2] (partS xs 1)) (hb:Below W0.heap.size W0 w')
  (hn:w'.heap[nb]?=some (.cells #[.int .i8 (partS xs 1).kind,.string (partS xs 1).text,.slice A2 (partS xs 1).l.length c2] 81 (0,0)))
  (hcv:cells8 cv=[.int .i8 5,.string noS,.int .i64 0,.slice none 0 0,.slice none 0 0,.slice none 0 0,.string noS,.slice (some ⟨nb,0,none⟩) 1 1]) :
  Made w' cv ((false || !decide (xs.length=2)) || decide (xs.length<=1)) (oneO xs.tail oAssert):=by
 by_cases h2:xs.length=2
 ·obtain ⟨y,x,rfl⟩:=two_of h2;show Made w' cv _ (some _);refine⟨rfl,?_⟩;rw [hcv];exact cmdR_terms { noCmd with kind:=5,terms:=[x] } rfl rfl rfl (lies_one (x:=x) hn (SexpR.lasts _ _ _ _ hb hr)) nlq (show 1<=maxLen by decide) (show [x].length * 48<=140737488351232 by simp) (show(Lit.int .i8 5).wf=true by decide) (show I64 0 from⟨by decide,by decide⟩) (show((noS.size:Nat):Int)<=140737488351232 by decide) (show((noS.size:Nat):Int)<=140737488351232 by decide)
 ·rw [oneO_not (by rw [List.length_tail];omega)];show _=true;simp [h2]
theorem assert_any {W0 w:World} {pb:Nat} {A:Option Addr} {c:Nat} {xs:List Sexp} (h:ParB w pb (.slice A xs.length c) zeroV false) (hx:Lies 3 SexpR W0 A xs) (hb:Below W0.heap.size W0 w) (hp:W0.heap.size<=pb) :
  Calls Tryz.prog 75 #[ptrP pb] w (FormPost W0.heap.size w pb (.slice A xs.length c) (oneO xs.tail oAssert)):=by
 have HK:=kp (kind_any h 5 2);have HJ:=kp (fun W cv b (hW:ParB W pb (.slice A xs.length c) cv b) (hB:Below W0.heap.size W0 W)=>part_any hW hx hB 1);have HB:=kp hb;have HE:=kp (fun w' cv A2 c2 nb hr hq=>assert_made (W0:=W0) (w':=w') (xs:=xs) (cv:=cv) (A2:=A2) (c2:=c2) (nb:=nb) hr hq);clear h hx hb;unfold ptrP at *
 go_enter Tryz.func75,Tryz.ntmps75
 go_wp2_with fail
 refine HK.out.mono ?_;rintro e w1 ⟨rfl,h1,k1⟩;have P1:=kp h1;have K1:=kp k1;have B1:=kp (HB.out.trans (keepP_below k1 hp HB.out.size));clear h1 k1;go_wp2_with fail
 refine(HJ.out _ _ _ P1.out B1.out).mono ?_;rintro e w2 ⟨A2,c2,⟨rfl,r2⟩,h2,k2⟩;have R2:=kp r2;have hne:w2.heap.size≠pb:=by have:=h2.lt;omega
 have hple:pb<=w2.heap.size:=by have:=h2.lt;omega
 have HP:=h2.below ((Below.refl _ _).alloc nlq (.cells #[.int .i8 (partS xs 1).kind,.string (partS xs 1).text,.slice A2 (partS xs 1).l.length c2] 81));have P2:=kp HP;have K2:=kp (show KeepP pb w (w2.alloc (.cells #[.int .i8 (partS xs 1).kind,.string (partS xs 1).text,.slice A2 (partS xs 1).l.length c2] 81)) from(K1.out.trans_same k2).alloc _);have f8:=HP.free 8;have d8:=HP.cell 7 (by omega);have f8':=h2.free 8;have d8':=h2.cell 7 (by omega);clear h2 k2 r2 HP;unfold agS;go_wp2_with fail
 go_end0
 have KE:=K2.out.setCell (p:=⟨pb,8,none⟩) (.inl rfl) (.slice (some ⟨w2.heap.size,0,none⟩) 1 1);exact⟨_,_,rfl,P2.out.setCmd 7 (by omega) _,KE,fun W' hW=>HE.out W' _ A2 c2 w2.heap.size R2.out (stay_below (HB.out.trans (keepP_below KE hp HB.out.size)) hW) (stay_blk ((Below.heap_setCell _ _ _ _ hne).trans (blk_new _ _)) hW hple) rfl⟩
def bareW (w:World) (pb:Nat) (k:Int):World:=(w.alloc (.cells #[ptrP pb] 127)).alloc (.cells #[.int .i8 k] 22)
def bareV (n:Nat):Value:=.func (.func 118) #[] #[.pointer (some ⟨n,0,none⟩),.pointer (some ⟨n+1,0,none⟩)]
theorem bare_any (w:World) (pb:Nat) (k:Int) :
  Calls Tryz.prog 79 #[ptrP pb,.int .i8 k] w fun e w'=>e=.returned (bareV w.heap.size)/\w'=bareW w pb k:=by
 have hmf:∀ (fn:Fn) (first cap:Array Value) (w:World),(Instr.makeFunc fn first cap).run Tryz.prog w=.ok (.func fn first cap) w:=fun _ _ _ _=>rfl;unfold ptrP
 go_enter Tryz.func79,Tryz.ntmps79
 go_wp2_with fail
 go_ret;exact⟨by simp [bareV],rfl⟩
end Cm
end Go.Proofs.YtmcbolkpbklfeaaGreatDoor
