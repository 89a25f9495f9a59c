import Derived.Test.YtpmdcckapddchaaGreatDoorShort
import Derived.Test.YtpmdcckapddchaaGreatDoorMw
import Derived.Test.YtpmdcckapddchaaGreatDoorMb
/- merged by wip/merge.py from: ElWays -/
set_option maxRecDepth 100000
set_option maxHeartbeats 51200000
namespace Go.Proofs.YtpmdcckapddchaaGreatDoor
namespace El
open Go.RowKit Go.Maps Dt Sg
theorem str_inj (x y:ByteArray) (h:Value.string x=.string y):x=y:=by injection h
def fnW (k:Nat):FuncId :=
 if k=0 then 141
 else if k=1 then 142
 else if k=2 then 143
 else if k=3 then 144
 else if k=4 then 145
 else if k=5 then 146
 else if k=6 then 147
 else if k=7 then 148
 else if k=8 then 149
 else if k=9 then 150
 else if k=10 then 151
 else 152
def fnV (k:Nat):Value:=.func (.func (fnW k)) #[] #[]
def waysF:ByteArray->Option Value:=fun x=>if x=sGt then some (.agg #[.int .i64 2,.int .i64 2,.func (.func 152) #[] #[]]) else if x=sGe then some (.agg #[.int .i64 2,.int .i64 2,.func (.func 151) #[] #[]]) else if x=sLt then some (.agg #[.int .i64 2,.int .i64 2,.func (.func 150) #[] #[]]) else if x=sLe then some (.agg #[.int .i64 2,.int .i64 2,.func (.func 149) #[] #[]]) else if x=sIte then some (.agg #[.int .i64 3,.int .i64 3,.func (.func 148) #[] #[]]) else if x=sDistinct then some (.agg #[.int .i64 2,.int .i64 1048576,.func (.func 147) #[] #[]]) else if x=sEq then some (.agg #[.int .i64 2,.int .i64 1048576,.func (.func 146) #[] #[]]) else if x=sImp then some (.agg #[.int .i64 2,.int .i64 1048576,.func (.func 145) #[] #[]]) else if x=sXor then some (.agg #[.int .i64 2,.int .i64 1048576,.func (.func 144) #[] #[]]) else if x=sOr then some (.agg #[.int .i64 2,.int .i64 1048576,.func (.func 143) #[] #[]]) else if x=sAnd then some (.agg #[.int .i64 2,.int .i64 1048576,.func (.func 142) #[] #[]]) else if x=sNot then some (.agg #[.int .i64 1,.int .i64 1,.func (.func 141) #[] #[]]) else none
def wayR:Option (Nat × Nat × Nat)->Value
 | none=>.agg #[.int .i64 0,.int .i64 0,.nilFunc]
 | some (k,lo,hi)=>.agg #[.int .i64 (lo:Int),.int .i64 (hi:Int),fnV k]
theorem waysF_eq (s:ByteArray):waysF s=(wayN s).map fun p=>wayR (some p):=by
 by_cases e0:s=sNot
 ·subst e0;rfl
 by_cases e1:s=sAnd
 ·subst e1;rfl
 by_cases e2:s=sOr
 ·subst e2;rfl
 by_cases e3:s=sXor
 ·subst e3;rfl
 by_cases e4:s=sImp
 ·subst e4;rfl
 by_cases e5:s=sEq
 ·subst e5;rfl
 by_cases e6:s=sDistinct
 ·subst e6;rfl
 by_cases e7:s=sIte
 ·subst e7;rfl
 by_cases e8:s=sLe
 ·subst e8;rfl
 by_cases e9:s=sLt
 ·subst e9;rfl
 by_cases e10:s=sGe
 ·subst e10;rfl
 by_cases e11:s=sGt
 ·subst e11;rfl
 unfold waysF wayN;rw [if_neg e11];rw [if_neg e10];rw [if_neg e9];rw [if_neg e8];rw [if_neg e7];rw [if_neg e6];rw [if_neg e5];rw [if_neg e4];rw [if_neg e3];rw [if_neg e2];rw [if_neg e1];rw [if_neg e0];rw [if_neg e0];rw [if_neg e1];rw [if_neg e2];rw [if_neg e3];rw [if_neg e4];rw [if_neg e5];rw [if_neg e6];rw [if_neg e7];rw [if_neg e8];rw [if_neg e9];rw [if_neg e10];rw [if_neg e11]
 rfl
theorem zero_way (w:World):(zeroValue 159).run Tryz.prog w=.ok (.agg #[.int .i64 0,.int .i64 0,.nilFunc]) w:=by kernel_rfl
theorem look_ways {w:World} {m n:Nat} (h:KeyMap 9 Value.string w m n waysF) (name:ByteArray) (hs:(name.size:Int)<=140737488351232) :
  (Instr.lookup 196 (.map (some m)) (.string name) true).run Tryz.prog w=.ok (.tuple #[wayR (wayN name),.bool (wayN name).isSome]) w:=by
 rw [h.look (a:=name) string_key Tryz.underlying196 (zero_way w) (keyOf_str hs),waysF_eq]
 cases wayN name <;> rfl
theorem ways_ret {f:Func} {w:World} {b:Nat} {x y z:Value} {o:Bool} {act:Act} {R:Ending->World->Prop} (hf:f.results=#[.cell 2 159,.tmp 3]) (hb:w.heap[b]?=some (.cells #[x,y,z] 159 (0,0))) (h2:act.tmps[2]?=some (.pointer (some ⟨b,0,none⟩))) (h3:act.tmps[3]?=some (.bool o)) (hd:act.defers=[]) (hR:R (.returned (.tuple #[.agg #[x,y,z],.bool o])) w) :
  bodyPost Tryz.prog f R .ret act w:=by
 obtain ⟨y0,y1,y2,_⟩:=Bk.c3 hb;refine bodyPost_ret (v:=.tuple #[.agg #[x,y,z],.bool o]) ?_ hd hR;simp [results,hf,go_sem,y0,y1,y2,h2,h3]
def WaysPost (name:ByteArray) (w:World) (e:Ending) (w':World):Prop:=e=.returned (.tuple #[wayR (wayN name),.bool (wayN name).isSome])/\Below w.heap.size w w'
theorem ways_any {w:World} (name:ByteArray) (hs:(name.size:Int)<=140737488351232):Calls Tryz.prog 94 #[.string name] w (WaysPost name w):=by
 have RB:=kp (Bk.new w (.cells #[.int .i64 0,.int .i64 0,.nilFunc] 159));have B1:=kp ((brq w).alloc nlq (.cells #[.int .i64 0,.int .i64 0,.nilFunc] 159));have HP:=kp (show ∀ e w',e=.returned (.tuple #[wayR (wayN name),.bool (wayN name).isSome])->Below w.heap.size w w'->WaysPost name w e w' from fun e w' h1 h2=>⟨h1,h2⟩);generalize WaysPost name w=PP at *
 go_enter Tryz.func94,Tryz.ntmps94
 go_upto_region 1 with fail
 generalize w.alloc (.cells #[.int .i64 0,.int .i64 0,.nilFunc] 159)=w3 at *;have M0:=kp (KeyMap.made (kt:=9) (key:=Value.string) w3);have K0:=kp (show Keeps (fun k=>k=w3.heap.size) w3 (w3.alloc (.map #[] 0)) from(Keeps.refl _ _).alloc _);generalize hv0:w3.alloc (.map #[] 0)=v0 at *;obtain ⟨v1,u1,m1,g1⟩:=KeyMap.store (a:=sNot) (t:=196) (e:=159) M0.out string_key str_inj Tryz.underlying196 (by decide) (keyOf_str (by decide)) (.agg #[.int .i64 1,.int .i64 1,.func (.func 141) #[] #[]]);replace u1:(Instr.mapUpdate 196 (.map (some w3.heap.size)) (.string { data:=#[110,111,116] }) (.agg #[.int .i64 1,.int .i64 1,.func (.func 141) #[] #[]])).run Tryz.prog v0=.ok () v1:=u1;have M1:=kp m1;have K1:=kp (K0.out.grown g1 (fun k hk=>.inl (Option.some.inj hk).symm));clear m1 g1;obtain ⟨v2,u2,m2,g2⟩:=KeyMap.store (a:=sAnd) (t:=196) (e:=159) M1.out string_key str_inj Tryz.underlying196 (by decide) (keyOf_str (by decide)) (.agg #[.int .i64 2,.int .i64 1048576,.func (.func 142) #[] #[]]);replace u2:(Instr.mapUpdate 196 (.map (some w3.heap.size)) (.string { data:=#[97,110,100] }) (.agg #[.int .i64 2,.int .i64 1048576,.func (.func 142) #[] #[]])).run Tryz.prog v1=.ok () v2:=u2;have M2:=kp m2;have K2:=kp (K1.out.grown g2 (fun k hk=>.inl (Option.some.inj hk).symm));clear m2 g2;obtain ⟨v3,u3,m3,g3⟩:=KeyMap.store (a:=sOr) (t:=196) (e:=159) M2.out string_key str_inj Tryz.underlying196 (by decide) (keyOf_str (by decide)) (.agg #[.int .i64 2,.int .i64 1048576,.func (.func 143) #[] #[]])
 replace u3:(Instr.mapUpdate 196 (.map (some w3.heap.size)) (.string { data:=#[111,114] }) (.agg #[.int .i64 2,.int .i64 1048576,.func (.func 143) #[] #[]])).run Tryz.prog v2=.ok () v3:=u3;have M3:=kp m3;have K3:=kp (K2.out.grown g3 (fun k hk=>.inl (Option.some.inj hk).symm));clear m3 g3;obtain ⟨v4,u4,m4,g4⟩:=KeyMap.store (a:=sXor) (t:=196) (e:=159) M3.out string_key str_inj Tryz.underlying196 (by decide) (keyOf_str (by decide)) (.agg #[.int .i64 2,.int .i64 1048576,.func (.func 144) #[] #[]]);replace u4:(Instr.mapUpdate 196 (.map (some w3.heap.size)) (.string { data:=#[120,111,114] }) (.agg #[.int .i64 2,.int .i64 1048576,.func (.func 144) #[] #[]])).run Tryz.prog v3=.ok () v4:=u4;have M4:=kp m4;have K4:=kp (K3.out.grown g4 (fun k hk=>.inl (Option.some.inj hk).symm));clear m4 g4;obtain ⟨v5,u5,m5,g5⟩:=KeyMap.store (a:=sImp) (t:=196) (e:=159) M4.out string_key str_inj Tryz.underlying196 (by decide) (keyOf_str (by decide)) (.agg #[.int .i64 2,.int .i64 1048576,.func (.func 145) #[] #[]]);replace u5:(Instr.mapUpdate 196 (.map (some w3.heap.size)) (.string { data:=#[61,62] }) (.agg #[.int .i64 2,.int .i64 1048576,.func (.func 145) #[] #[]])).run Tryz.prog v4=.ok () v5:=u5;have M5:=kp m5;have K5:=kp (K4.out.grown g5 (fun k hk=>.inl (Option.some.inj hk).symm));clear m5 g5;obtain ⟨v6,u6,m6,g6⟩:=KeyMap.store (a:=sEq) (t:=196) (e:=159) M5.out string_key str_inj Tryz.underlying196 (by decide) (keyOf_str (by decide)) (.agg #[.int .i64 2,.int .i64 1048576,.func (.func 146) #[] #[]])
 replace u6:(Instr.mapUpdate 196 (.map (some w3.heap.size)) (.string { data:=#[61] }) (.agg #[.int .i64 2,.int .i64 1048576,.func (.func 146) #[] #[]])).run Tryz.prog v5=.ok () v6:=u6;have M6:=kp m6;have K6:=kp (K5.out.grown g6 (fun k hk=>.inl (Option.some.inj hk).symm));clear m6 g6;obtain ⟨v7,u7,m7,g7⟩:=KeyMap.store (a:=sDistinct) (t:=196) (e:=159) M6.out string_key str_inj Tryz.underlying196 (by decide) (keyOf_str (by decide)) (.agg #[.int .i64 2,.int .i64 1048576,.func (.func 147) #[] #[]]);replace u7:(Instr.mapUpdate 196 (.map (some w3.heap.size)) (.string { data:=#[100,105,115,116,105,110,99,116] }) (.agg #[.int .i64 2,.int .i64 1048576,.func (.func 147) #[] #[]])).run Tryz.prog v6=.ok () v7:=u7;have M7:=kp m7;have K7:=kp (K6.out.grown g7 (fun k hk=>.inl (Option.some.inj hk).symm));clear m7 g7;obtain ⟨v8,u8,m8,g8⟩:=KeyMap.store (a:=sIte) (t:=196) (e:=159) M7.out string_key str_inj Tryz.underlying196 (by decide) (keyOf_str (by decide)) (.agg #[.int .i64 3,.int .i64 3,.func (.func 148) #[] #[]]);replace u8:(Instr.mapUpdate 196 (.map (some w3.heap.size)) (.string { data:=#[105,116,101] }) (.agg #[.int .i64 3,.int .i64 3,.func (.func 148) #[] #[]])).run Tryz.prog v7=.ok () v8:=u8;have M8:=kp m8;have K8:=kp (K7.out.grown g8 (fun k hk=>.inl (Option.some.inj hk).symm));clear m8 g8;obtain ⟨v9,u9,m9,g9⟩:=KeyMap.store (a:=sLe) (t:=196) (e:=159) M8.out string_key str_inj Tryz.underlying196 (by decide) (keyOf_str (by decide)) (.agg #[.int .i64 2,.int .i64 2,.func (.func 149) #[] #[]])
 replace u9:(Instr.mapUpdate 196 (.map (some w3.heap.size)) (.string { data:=#[60,61] }) (.agg #[.int .i64 2,.int .i64 2,.func (.func 149) #[] #[]])).run Tryz.prog v8=.ok () v9:=u9;have M9:=kp m9;have K9:=kp (K8.out.grown g9 (fun k hk=>.inl (Option.some.inj hk).symm));clear m9 g9;obtain ⟨v10,u10,m10,g10⟩:=KeyMap.store (a:=sLt) (t:=196) (e:=159) M9.out string_key str_inj Tryz.underlying196 (by decide) (keyOf_str (by decide)) (.agg #[.int .i64 2,.int .i64 2,.func (.func 150) #[] #[]]);replace u10:(Instr.mapUpdate 196 (.map (some w3.heap.size)) (.string { data:=#[60] }) (.agg #[.int .i64 2,.int .i64 2,.func (.func 150) #[] #[]])).run Tryz.prog v9=.ok () v10:=u10;have M10:=kp m10;have K10:=kp (K9.out.grown g10 (fun k hk=>.inl (Option.some.inj hk).symm));clear m10 g10;obtain ⟨v11,u11,m11,g11⟩:=KeyMap.store (a:=sGe) (t:=196) (e:=159) M10.out string_key str_inj Tryz.underlying196 (by decide) (keyOf_str (by decide)) (.agg #[.int .i64 2,.int .i64 2,.func (.func 151) #[] #[]]);replace u11:(Instr.mapUpdate 196 (.map (some w3.heap.size)) (.string { data:=#[62,61] }) (.agg #[.int .i64 2,.int .i64 2,.func (.func 151) #[] #[]])).run Tryz.prog v10=.ok () v11:=u11;have M11:=kp m11;have K11:=kp (K10.out.grown g11 (fun k hk=>.inl (Option.some.inj hk).symm));clear m11 g11;obtain ⟨v12,u12,m12,g12⟩:=KeyMap.store (a:=sGt) (t:=196) (e:=159) M11.out string_key str_inj Tryz.underlying196 (by decide) (keyOf_str (by decide)) (.agg #[.int .i64 2,.int .i64 2,.func (.func 152) #[] #[]])
 replace u12:(Instr.mapUpdate 196 (.map (some w3.heap.size)) (.string { data:=#[62] }) (.agg #[.int .i64 2,.int .i64 2,.func (.func 152) #[] #[]])).run Tryz.prog v11=.ok () v12:=u12;have M12:=kp m12;have K12:=kp (K11.out.grown g12 (fun k hk=>.inl (Option.some.inj hk).symm));clear m12 g12;have hmm:=@run_makeMap Tryz.prog;subst hv0;have HM:=kp (show KeyMap 9 Value.string v12 w3.heap.size 12 waysF from M12.out);have B13:=kp (K12.out.below (B:=w3.heap.size) (fun k e=>by subst e;exact nlq) nlq);have hlk:=look_ways HM.out name hs;have R13:=kp (Bk.on RB.out B13.out);have BW:=kp (B1.out.trans (B13.out.mono B1.out.size));clear M0 M1 M2 M3 M4 M5 M6 M7 M8 M9 M10 M11 M12 K0 K1 K2 K3 K4 K5 K6 K7 K8 K9 K10 K11 K12 RB B1 HM B13;have hsn:=fun(a:Addr) (m:Mode) (w:World)=>run_store Tryz.prog w a .nilFunc m rfl;have hsf:=fun(a:Addr) (m:Mode) (w:World) (fn:Fn) (x y:Array Value)=>run_store Tryz.prog w a (.func fn x y) m rfl
 cases hwn:wayN name with
 | none =>
  rw [hwn] at hlk HP;replace hlk:(Instr.lookup 196 (.map (some w3.heap.size)) (.string name) true).run Tryz.prog v12=.ok (.tuple #[.agg #[.int .i64 0,.int .i64 0,.nilFunc],.bool false]) v12:=hlk;obtain ⟨r0,r1,r2,rf⟩:=Bk.c3 R13.out;go_wp2_with fail
  exact ways_ret Tryz.results94 (Bk.set_at (Bk.set_at (Bk.set_at (Bk.set_at (Bk.set_at (Bk.set_at R13.out 0 _) 1 _) 2 _) 0 _) 1 _) 2 _) rfl rfl rfl (HP.out _ _ rfl ((((((BW.out.setCell (p:=⟨w.heap.size,0,none⟩) nlq _).setCell (p:=⟨w.heap.size,1,none⟩) nlq _).setCell (p:=⟨w.heap.size,2,none⟩) nlq _).setCell (p:=⟨w.heap.size,0,none⟩) nlq _).setCell (p:=⟨w.heap.size,1,none⟩) nlq _).setCell (p:=⟨w.heap.size,2,none⟩) nlq _))
 | some p =>
  obtain ⟨k,lo,hi⟩:=p;rw [hwn] at hlk HP;replace hlk:(Instr.lookup 196 (.map (some w3.heap.size)) (.string name) true).run Tryz.prog v12=.ok (.tuple #[.agg #[.int .i64 (lo:Int),.int .i64 (hi:Int),fnV k],.bool true]) v12:=hlk;obtain ⟨r0,r1,r2,rf⟩:=Bk.c3 R13.out;obtain ⟨fv,hfv⟩:∃ fv,fnW k=fv:=⟨_,rfl⟩;unfold fnV at hlk;rw [hfv] at hlk;go_wp2_with fail
  exact ways_ret Tryz.results94 (Bk.set_at (Bk.set_at (Bk.set_at (Bk.set_at (Bk.set_at (Bk.set_at R13.out 0 _) 1 _) 2 _) 0 _) 1 _) 2 _) rfl rfl rfl (HP.out _ _ (by rw [← hfv];rfl) ((((((BW.out.setCell (p:=⟨w.heap.size,0,none⟩) nlq _).setCell (p:=⟨w.heap.size,1,none⟩) nlq _).setCell (p:=⟨w.heap.size,2,none⟩) nlq _).setCell (p:=⟨w.heap.size,0,none⟩) nlq _).setCell (p:=⟨w.heap.size,1,none⟩) nlq _).setCell (p:=⟨w.heap.size,2,none⟩) nlq _))
end El
end Go.Proofs.YtpmdcckapddchaaGreatDoor
