import Derived.Test.YtmcbolkpbklfeaaGreatDoorShort
import Derived.Test.YtmcbolkpbklfeaaGreatDoorMi
import Derived.Test.YtmcbolkpbklfeaaGreatDoorMh
import Derived.Test.YtmcbolkpbklfeaaGreatDoorMd
import Derived.Deep.RegionWith
/- merged by wip/merge.py from: SigMacP SigFresh SigSeen -/
set_option maxRecDepth 100000
set_option maxHeartbeats 51200000
namespace Go.Proofs.YtmcbolkpbklfeaaGreatDoor
namespace Sg
open Go.RowKit Dt
def NameIn (ns:List ByteArray) (k:Nat) (v:Value):Prop:=∃ x,x ∈ ns.take k/\v=.string x
theorem nameIn_zero (ns:List ByteArray) (v:Value):False ↔ NameIn ns 0 v:=by simp [NameIn]
theorem nameIn_succ {ns:List ByteArray} {k:Nat} {y:ByteArray} (h:ns[k]?=some y) (v:Value):(v=.string y\/NameIn ns k v) ↔ NameIn ns (k+1) v:=by
 unfold NameIn;rw [List.take_add_one,h]
 constructor
 ·rintro (rfl | ⟨x,hx,rfl⟩)
  ·exact⟨y,by simp,rfl⟩
  ·exact⟨x,by simp [hx],rfl⟩
 ·rintro ⟨x,hx,rfl⟩;rcases List.mem_append.1 hx with h1 | h1
  ·exact .inr ⟨x,h1,rfl⟩
  ·simp at h1;subst h1;exact .inl rfl
theorem nameIn_has {ns:List ByteArray} {k:Nat} {y:ByteArray}:NameIn ns k (.string y) ↔ hasB (ns.take k) y=true:=by
 rw [hasB_iff];unfold NameIn
 constructor
 ·rintro ⟨x,hx,e⟩;cases e;exact hx
 ·intro h;exact⟨y,h,rfl⟩
theorem Boxes.keeps {w w':World} {b:Nat} {u0 u1 u2 m1 m2 m3 m4 m5:Value} {S:Nat->Prop} (h:Boxes w b u0 u1 u2 m1 m2 m3 m4 m5) (hk:Keeps S w w') (h0:¬ S b) (h1:¬ S (b+1)):Boxes w' b u0 u1 u2 m1 m2 m3 m4 m5:=by
 have l0:b < w.heap.size:=by have:=h.lt;omega
 exact⟨Nat.lt_of_lt_of_le h.lt hk.size,(hk.cell l0 h0).trans h.u0,(hk.cell l0 h0).trans h.u1,(hk.cell l0 h0).trans h.u2,(hk.cell h.lt h1).trans h.m1,(hk.cell h.lt h1).trans h.m2,(hk.cell h.lt h1).trans h.m3,(hk.cell h.lt h1).trans h.m4,(hk.cell h.lt h1).trans h.m5⟩
theorem macro_any {w:World} {A1 A2 A3:Option Addr} {n1 c1 n2 c2 n3 c3:Nat} (hn:(n1:Int)<=140737488351232)
  {Ap Ab:Option Addr} {cp cb:Nat} (m:Macro) (hp:Lies 2 ParamR w Ap m.params) (hpl:m.params.length<=maxLen) (hx:SexpR w [.int .i8 m.body.kind,.string m.body.text,.slice Ab m.body.l.length cb] m.body) :
  Calls Tryz.prog 189 #[.agg #[.slice A1 n1 c1,.slice A2 n2 c2,.slice A3 n3 c3],.agg #[.string m.name,.slice Ap m.params.length cp,.int .i64 m.res,.int .i8 m.body.kind,.string m.body.text,.slice Ab m.body.l.length cb]] w fun e w'=>e=.returned (.bool (macroB n1 m))/\Below w.heap.size w w':=by
 have HTh:=kp (fun s W=>there_any A1 A2 A3 n1 c1 n2 c2 n3 c3 s W hn);have HSx:=kp (fun W (hW:Below w.heap.size w W)=>sxmay_any (SexpR.lasts _ _ _ _ hW hx));have HLp:=kp (fun W (hW:Below w.heap.size w W)=>hp.on ParamR.lasts hW);have HP:=kp (fun k p=>paramB_at (n:=n1) (ps:=m.params) (k:=k) (p:=p));have HPs:=kp (paramsTo_succ n1 m.params);have HPx:=kp (fun k hk h=>paramsTo_stop (n:=n1) (ps:=m.params) (k:=k) hk h);have HNm:=kp (fun k x=>map_at (l:=m.params) (nm:=Param.name) (k:=k) (x:=x));have HE:=kp (show macroB n1 m=(decide (m.params.length<=3) && thereB n1 m.res && m.body.may && paramsTo n1 m.params m.params.length) from rfl);have HZ:=kp (show paramsTo n1 m.params 0=true from rfl);clear hp hx;generalize macroB n1 m=mb at *;generalize paramsTo n1 m.params=pt at *;generalize paramB n1 m.params=pb at *;generalize m.params.map Param.name=ns at *;generalize m.body.may=bm' at *;generalize m.body.kind=bk at *;generalize m.body.text=bt at *;generalize m.body.l.length=bl at *;generalize m.params=ps at *;generalize m.res=res at *;generalize m.name=nm at *;have HPL:=kp hpl;have hpl2:(ps.length:Int)<=9223372036854775807:=by unfold maxLen at hpl;omega
 clear hpl;have B2:=kp (((brq w).alloc nlq (.cells #[.slice A1 n1 c1,.slice A2 n2 c2,.slice A3 n3 c3] 93)).alloc (by simp) (.cells #[.string nm,.slice Ap ps.length cp,.int .i64 res,.int .i8 bk,.string bt,.slice Ab bl cb] 198));have HX2:=kp (boxes_made w (.slice A1 n1 c1) (.slice A2 n2 c2) (.slice A3 n3 c3) (.string nm) (.slice Ap ps.length cp) (.int .i64 res) (.int .i8 bk) (.string bt) (.slice Ab bl cb) 93 198);have hmm:=@run_makeMap Tryz.prog
 go_enter Tryz.func189,Tryz.ntmps189
 go_wp2_with fail
 have hz2:((w.alloc (.cells #[.slice A1 n1 c1,.slice A2 n2 c2,.slice A3 n3 c3] 93)).alloc (.cells #[.string nm,.slice Ap ps.length cp,.int .i64 res,.int .i8 bk,.string bt,.slice Ab bl cb] 198)).heap.size=w.heap.size+1+1:=by simp
 generalize (w.alloc (.cells #[.slice A1 n1 c1,.slice A2 n2 c2,.slice A3 n3 c3] 93)).alloc (.cells #[.string nm,.slice Ap ps.length cp,.int .i64 res,.int .i8 bk,.string bt,.slice Ab bl cb] 198)=w2 at *
 have HMp:=kp (show BoolMap Tryz.prog 9 4 (w2.alloc (.map #[] 0)) (w.heap.size+1+1) 0 (NameIn ns 0) from by
  have:=BoolMap.made w2 Tryz.prog 9 4;rw [hz2] at this;exact this.imp (nameIn_zero ns))
 have B3:=kp (B2.out.alloc B2.out.size (.map #[] 0));have HX3:=kp (HX2.out.on ((brq w2).alloc nlq (.map #[] 0)));clear hz2 HX2 B2;generalize w2.alloc (.map #[] 0)=w3 at *;have hbm:w.heap.size+1 < w.heap.size+1+1:=by omega
 generalize w.heap.size+1+1=bm at *;clear hmm
 go_loopw [12] (fun v wr=>∃ k:Nat,k<=ps.length/\v=.int .i64 k/\pt k=true/\Keeps (·=bm) w3 wr/\BoolMap Tryz.prog 9 4 wr bm k (NameIn ns k)) (fun v _=>ps.length - (intOf v).toNat)
 case atStart=>exact⟨0,by omega,rfl,HZ.out,Keeps.refl _ _,HMp.out⟩
 case round =>
  obtain ⟨k,hk,rfl,hok,hkp,hmp⟩:=hrel;have HO:=kp hok;have HK:=kp hkp;have B5:=kp (B3.out.trans (hkp.below (B:=w.heap.size) (fun j e=>by omega) B3.out.size));have HX5:=kp (HX3.out.keeps hkp (by show ¬ (w.heap.size=bm);omega) (by show ¬ (w.heap.size+1=bm);omega));have HM5:=kp hmp;clear hok hkp hmp HMp
  by_cases hlt:k < ps.length
  ·have hlt2:(k:Int) < (ps.length:Int):=by omega
   have hx:=gqe hlt;generalize ps[k]=p at hx;have HL5:=kp (HLp.out wr B5.out);obtain ⟨b,o,vs,rfl,hbl,_,hcell,hr⟩:=HL5.out.at' hx;obtain ⟨rfl,hps,hpi⟩:=hr;have c0:=hcell 0 _ rfl;have c1:=hcell 1 _ rfl;rw [Nat.add_zero] at c0;have HPk:=kp (HP.out k p hx);have HNk:=kp (HNm.out k p hx);clear hx hcell;generalize p.name=y at *;generalize p.sort=sr at *;obtain ⟨hz5,x0,x1,x2,y1,y2,y3,y4,y5⟩:=HX5.out;have BA:=kp ((brq wr).alloc nlq (.cells #[.string y,.int .i64 sr] 200));have HM6:=kp (HM5.out.alloc (.cells #[.string y,.int .i64 sr] 200));obtain ⟨c,hlk,hcS⟩:=HM6.out.look string_key Tryz.underlying344 Tryz.underlying4 zero_bool (keyOf_str hps);have z6:wr.heap.size < (wr.alloc (.cells #[.string y,.int .i64 sr] 200)).heap.size:=by simp
   have q0:(wr.alloc (.cells #[.string y,.int .i64 sr] 200)).cell? ⟨wr.heap.size,0,none⟩=some (.string y):=by rw [World.cell?_alloc_mark];rfl
   have q1:(wr.alloc (.cells #[.string y,.int .i64 sr] 200)).cell? ⟨wr.heap.size,1,none⟩=some (.int .i64 sr):=by rw [World.cell?_alloc_mark];rfl
   rw [nameIn_has] at hcS;have HC:=kp hcS;clear hcS;generalize hw6:wr.alloc (.cells #[.string y,.int .i64 sr] 200)=w6 at *;have B6:=kp (B5.out.trans (BA.out.mono B5.out.size));have K6:=kp (HK.out.trans_same (Keeps.of_below BA.out _));have HX6:=kp (HX5.out.on BA.out);have HU:=kp (usable_any y w6 hps);have HPu:=kp (show pb k=(usableB (Lx.bs y) && thereB n1 sr && !hasB (List.take k ns) y) from HPk.out);clear HX5 hz5 HPk
   cases c with
   | true =>
    have HR:=kp (show mb=false by rw [HE.out];simp [HPx.out k hlt (by rw [HPu.out,HC.out.1 rfl];simp)]);go_wp2_with fail
    go_ret;exact⟨ret_bool HR.out.symm,B6.out⟩
   | false =>
    have HNo:=kp (show hasB (List.take k ns) y=false by cases hh:hasB (List.take k ns) y with | false=>rfl | true=>exact absurd (HC.out.2 hh) (by simp));replace HPu:=kp (show pb k=(usableB (Lx.bs y) && thereB n1 sr) by rw [HPu.out,HNo.out];simp);go_wp2_with fail
    clear hw6 x0 x1 x2 y1 y2 y3 y4 y5 c0 c1;generalize usableB (Lx.bs y)=bu at *
    cases bu with
    | false =>
     have HR:=kp (show mb=false by rw [HE.out];simp [HPx.out k hlt (by rw [HPu.out];rfl)]);refine HU.out.mono ?_;rintro e w7 ⟨rfl,rfl⟩;go_wp2_with fail
     go_ret;exact⟨ret_bool HR.out.symm,B6.out⟩
    | true =>
     refine HU.out.mono ?_;rintro e w7 ⟨rfl,rfl⟩;obtain ⟨hz6,x0,x1,x2,y1,y2,y3,y4,y5⟩:=HX6.out;have hcall:=HTh.out sr w6;go_wp2_with fail
     clear x0 x1 x2 y1 y2 y3 y4 y5
     cases ht:thereB n1 sr with
     | false =>
      have HR:=kp (show mb=false by rw [HE.out];simp [HPx.out k hlt (by rw [HPu.out,ht];rfl)]);rw [ht] at hcall;clear ht;refine hcall.mono ?_;rintro e w7 ⟨rfl,hb⟩;have B7:=kp (B6.out.trans (hb.mono B6.out.size));clear hb;go_wp2_with fail
      go_ret;exact⟨ret_bool HR.out.symm,B7.out⟩
     | true =>
      have HR:=kp (show pt (k+1)=true by rw [HPs.out,HO.out,HPu.out,ht];rfl);rw [ht] at hcall;clear ht;refine hcall.mono ?_;rintro e w7 ⟨rfl,hb⟩;have K7:=kp (K6.out.trans_same (Keeps.of_below hb _));have HM7:=kp (HM6.out.below hb);have r0:=((bcell hb).1 wr.heap.size 0 z6).trans q0;obtain ⟨w8,hup,hm8,hg8⟩:=HM7.out.store string_key Tryz.underlying344 Tryz.underlying4 (by have:=HPL.out;omega) (keyOf_str hps);have HM8:=kp (hm8.imp (nameIn_succ HNk.out));have K8:=kp (K7.out.grown hg8 (fun j hj=>by left;simpa using hj.symm));clear hb hm8 hg8 q0 q1 hcall hlk;go_wp2_with fail
      go_roundw
      case rel=>exact⟨k+1,by omega,by go_num,HR.out,K8.out,HM8.out⟩
      case measure=>simp [intOf];omega
  ·obtain rfl:k=ps.length:=by omega
   obtain ⟨hz5,x0,x1,x2,y1,y2,y3,y4,y5⟩:=HX5.out
   by_cases h3:(ps.length:Int)<=3
   ·have h3':decide ((ps.length:Int)<=3)=true:=decide_eq_true h3;replace HE:=kp (show mb=(thereB n1 res && bm') by rw [HE.out,HO.out,decide_eq_true (show ps.length<=3 by omega)];simp);have hcall:=HTh.out res wr;go_wp2_with fail
    clear x0 x1 x2 y1 y2 y3 y4 y5
    cases ht:thereB n1 res with
    | false =>
     replace HE:=kp (show mb=false by rw [HE.out,ht];rfl);rw [ht] at hcall;clear ht;refine hcall.mono ?_;rintro e w7 ⟨rfl,hb⟩;have B7:=kp (B5.out.trans (hb.mono B5.out.size));clear hb;go_wp2_with fail
     go_ret;exact⟨ret_bool HE.out.symm,B7.out⟩
    | true =>
     replace HE:=kp (show mb=bm' by rw [HE.out,ht];rfl);rw [ht] at hcall;clear ht;refine hcall.mono ?_;rintro e w7 ⟨rfl,hb⟩;have B7:=kp (B5.out.trans (hb.mono B5.out.size));obtain ⟨hz7,x0,x1,x2,y1,y2,y3,y4,y5⟩:=HX5.out.on hb;clear hb hcall;have hcall:=HSx.out w7 B7.out;go_wp2_with fail
     refine hcall.mono ?_;rintro e w8 ⟨rfl,hb⟩;have B8:=kp (B7.out.trans (hb.mono B7.out.size));clear hb;go_wp2_with fail
     go_ret;exact⟨ret_bool HE.out.symm,B8.out⟩
   ·have h3':decide ((ps.length:Int)<=3)=false:=dfq h3;replace HE:=kp (show mb=false by rw [HE.out,dfq (show ¬ ps.length<=3 by omega)];rfl);go_wp2_with fail
    go_ret;exact⟨ret_bool HE.out.symm,B5.out⟩
def keyN (s:ByteArray) (sort:Bool):Value:=.agg #[.string s,.bool sort]
def FreshPost (s:ByteArray) (sort:Bool) (bm k:Nat) (S:Value->Prop) (w:World) (e:Ending) (w':World):Prop :=
 ∃ c:Bool,(c=true ↔ S (keyN s sort))/\e=.returned (.bool (usableB (Lx.bs s) && !c && (sort || !coreB (Lx.bs s))))/\BoolMap Tryz.prog 325 4 w' bm (k+1) (fun x=>x=keyN s sort\/S x)/\Keeps (·=bm) w w'
theorem fresh_any (s:ByteArray) (hs:(s.size:Int)<=140737488351232) (sort:Bool) (w:World) (bx bm k:Nat) (S:Value->Prop) (hbx:w.cell? ⟨bx,0,none⟩=some (.map (some bm))) (hlt:bx < w.heap.size) (hm:BoolMap Tryz.prog 325 4 w bm k S) (hk:k < maxLen) :
  Calls Tryz.prog 230 #[.string s,.bool sort,.pointer (some ⟨bx,0,none⟩)] w (FreshPost s sort bm k S w):=by
 have HU:=kp (fun W=>usable_any s W hs);have HCo:=kp (fun W=>core_any s W);have HM1:=kp (hm.alloc (.cells #[.string s,.bool sort] 325));have BA:=kp ((brq w).alloc nlq (.cells #[.string s,.bool sort] 325));obtain ⟨kl,hkl⟩:=keyOf_name hs sort;obtain ⟨c,hlk,hcS⟩:=HM1.out.look name_key Tryz.underlying326 Tryz.underlying4 zero_bool hkl;obtain ⟨w2,hup,hm2,hg2⟩:=HM1.out.store name_key Tryz.underlying326 Tryz.underlying4 hk hkl;have HP:=kp (fun(e:Ending) (h:e=.returned (.bool (usableB (Lx.bs s) && !c && (sort || !coreB (Lx.bs s)))))=>(show FreshPost s sort bm k S w e w2 from⟨c,hcS,h,hm2,(Keeps.of_below BA.out _).grown hg2 (fun j hj=>by left;simpa using hj.symm)⟩));have q0:(w.alloc (.cells #[.string s,.bool sort] 325)).cell? ⟨w.heap.size,0,none⟩=some (.string s):=by rw [World.cell?_alloc_mark];rfl
 have q1:(w.alloc (.cells #[.string s,.bool sort] 325)).cell? ⟨w.heap.size,1,none⟩=some (.bool sort):=by rw [World.cell?_alloc_mark];rfl
 have q2:=((bcell BA.out).1 bx 0 hlt).trans hbx;clear hcS hm2 hg2 hm hbx hkl HM1;generalize usableB (Lx.bs s)=bu at *;generalize coreB (Lx.bs s)=bc at *
 go_enter Tryz.func230,Tryz.ntmps230
 go_wp2_with fail
 generalize w.alloc (.cells #[.string s,.bool sort] 325)=w1 at *;refine(HU.out w1).mono ?_;rintro e w' ⟨rfl,rfl⟩
 cases bu with
 | false =>
  go_wp2_with fail
  go_ret;exact HP.out _ rfl
 | true =>
  cases c with
  | true =>
   go_wp2_with fail
   go_ret;exact HP.out _ rfl
  | false =>
   cases sort with
   | true =>
    go_wp2_with fail
    go_ret;exact HP.out _ rfl
   | false =>
    go_wp2_with fail
    refine(HCo.out w1).mono ?_;rintro e w' ⟨rfl,rfl⟩
    cases bc with
    | true =>
     go_wp2_with fail
     go_ret;exact HP.out _ rfl
    | false =>
     go_wp2_with fail
     go_ret;exact HP.out _ rfl
section
variable {P:Program} {k e t:TypeId}
theorem upon_store {o:Oper} {a:Act} {K:Act->World->Prop} {Q:Exit->Act->World->Prop} {W:World} {b n:Nat} {S:Value->Prop} (h:BoolMap P k e W b n S) (KK:Maps.Keyed P k) (ht:P.underlying t=some (.map k e)) (he:P.underlying e=some .bool) (hn:n < maxLen) {key:Value} {kl:Lit} (hkey:keyOf P k key=some kl)
  (hK:∀ w',BoolMap P k e w' b (n+1) (fun x=>x=key\/S x)->W.grownBy w' (some b)->K (a.put o.dst undef) w') :
  o.upon P a K Q ((Sem.run P (Instr.mapUpdate t (.map (some b)) key (.bool true)) W).andThen fun _ w'=>Result.ok Next.skip w'):=by
 obtain ⟨w',hrun,h1,h2⟩:=h.store KK ht he hn hkey;rw [hrun];exact hK w' h1 h2
end
structure St (w:World) (u0 u1 u2:Value) (W:World) (mb:Option Nat) (xb:Option (Nat × Value)) (n:Nat) (S:Value->Prop):Prop where
 keep:Below w.heap.size w W
 g0:W.cell? ⟨w.heap.size,0,none⟩=some u0
 g1:W.cell? ⟨w.heap.size,1,none⟩=some u1
 g2:W.cell? ⟨w.heap.size,2,none⟩=some u2
 lt:w.heap.size < W.heap.size
 mp:∀ b,mb=some b->BoolMap Tryz.prog 325 4 W b n S/\w.heap.size < b
 bx:∀ x v,xb=some (x,v)->W.heap[x]?=some (.cells #[v] 326 (0,0))/\w.heap.size < x
 ne:∀ b x v,mb=some b->xb=some (x,v)->b≠x
section
variable {w W W':World} {u0 u1 u2 v:Value} {mb:Option Nat} {xb:Option (Nat × Value)} {n b x:Nat} {S S':Value->Prop}
theorem St.below (h:St w u0 u1 u2 W mb xb n S) (hb:Below W.heap.size W W'):St w u0 u1 u2 W' mb xb n S:=by
 have e:=fun o=>(bcell hb).1 w.heap.size o h.lt;refine⟨h.keep.trans (hb.mono h.keep.size),(e 0).trans h.g0,(e 1).trans h.g1,(e 2).trans h.g2,Nat.lt_of_lt_of_le h.lt hb.size,fun b hm=>?_,fun x v hx=>?_,h.ne⟩
 ·obtain ⟨h1,h2⟩:=h.mp b hm;exact⟨h1.below hb,h2⟩
 ·obtain ⟨h1,h2⟩:=h.bx x v hx;exact⟨(hb.block _ (lt_of_block h1)).trans h1,h2⟩
theorem St.drew (h:St w u0 u1 u2 W mb xb n S):St w u0 u1 u2 W.drew mb xb n S:=h.below (Below.refl _ _).drew
theorem St.map (h:St w u0 u1 u2 W none xb n S) (hB:W.heap.size=b):St w u0 u1 u2 (W.alloc (.map #[] 0)) (some b) xb 0 (fun _=>False):=by
 have h':=h.below (W':=W.alloc (.map #[] 0)) ((Below.refl _ _).alloc nlq _);refine⟨h'.keep,h'.g0,h'.g1,h'.g2,h'.lt,fun b' hb=>?_,h'.bx,fun b' x v hb hx=>?_⟩
 ·cases hb
  rw [← hB];exact⟨BoolMap.made W _ _ _,h.lt⟩
 ·cases hb
  have:=lt_of_block (h.bx x v hx).1
  omega
theorem St.box (h:St w u0 u1 u2 W mb none n S) (hB:W.heap.size=x) (v:Value):St w u0 u1 u2 (W.alloc (.cells #[v] 326)) mb (some (x,v)) n S:=by
 have h':=h.below (W':=W.alloc (.cells #[v] 326)) ((Below.refl _ _).alloc nlq _);refine⟨h'.keep,h'.g0,h'.g1,h'.g2,h'.lt,h'.mp,fun x' v' hx=>?_,fun b' x' v' hb hx=>?_⟩
 ·cases hx
  rw [← hB];exact⟨Array.getElem?_push_size,h.lt⟩
 ·cases hx
  have:=(h.mp b' hb).1.lt
  omega
theorem St.ins (h:St w u0 u1 u2 W (some b) xb n S) (hm:BoolMap Tryz.prog 325 4 W' b (n+1) S') (hg:W.grownBy W' (some b)):St w u0 u1 u2 W' (some b) xb (n+1) S':=by
 obtain ⟨h1,h2⟩:=h.mp b rfl;have hk:Keeps (·=b) W W':=(Keeps.refl _ _).grown hg (fun j hj=>by left;simpa using hj.symm);have e:=fun o=>hk.cell (b:=w.heap.size) (o:=o) h.lt (by show ¬ (w.heap.size=b);omega);refine⟨h.keep.trans (hk.below (fun j hj=>by omega) h.keep.size),(e 0).trans h.g0,(e 1).trans h.g1,(e 2).trans h.g2,Nat.lt_of_lt_of_le h.lt hg.size,fun b' hb=>?_,fun x v hx=>?_,h.ne⟩
 ·cases hb;exact⟨hm,h2⟩
 ·obtain ⟨q1,q2⟩:=h.bx x v hx;exact⟨(hk.block x (lt_of_block q1) (fun e=>h.ne b x v rfl hx e.symm)).trans q1,q2⟩
theorem St.put (h:St w u0 u1 u2 W mb (some (x,v)) n S) (v':Value):St w u0 u1 u2 (W.setCell ⟨x,0,none⟩ v') mb (some (x,v')) n S:=by
 obtain ⟨q1,q2⟩:=h.bx x v rfl;have e:∀ j,j≠x->(W.setCell ⟨x,0,none⟩ v').heap[j]?=W.heap[j]?:=fun j hj=>Below.heap_setCell _ _ _ _ hj;have ec:∀ o,(W.setCell ⟨x,0,none⟩ v').cell? ⟨w.heap.size,o,none⟩=W.cell? ⟨w.heap.size,o,none⟩:=fun o=>World.cell?_of_block (w:=W) (e _ (by show w.heap.size≠x;omega));refine⟨h.keep.setCell (by simp;omega) _,(ec 0).trans h.g0,(ec 1).trans h.g1,(ec 2).trans h.g2,by simpa [World.setCell] using h.lt,fun b' hb=>?_,fun x' v'' hx=>?_,fun b' x' v'' hb hx=>?_⟩
 ·obtain ⟨⟨D,h1,h2⟩,h3⟩:=h.mp b' hb;exact⟨⟨D,h1.setCell (h.ne b' x v hb rfl) _,h2⟩,h3⟩
 ·cases hx
  exact⟨by simp [World.setCell,Array.getElem?_modify,q1],q2⟩
 ·cases hx
  exact h.ne b' _ v hb rfl
theorem St.imp (h:St w u0 u1 u2 W mb xb n S) (hS:∀ x,S x ↔ S' x):St w u0 u1 u2 W mb xb n S' :=
 ⟨h.keep,h.g0,h.g1,h.g2,h.lt,fun b hb=>⟨(h.mp b hb).1.imp hS,(h.mp b hb).2⟩,h.bx,h.ne⟩
theorem St.start (w:World) (u0 u1 u2:Value) (t:TypeId) (S:Value->Prop):St w u0 u1 u2 (w.alloc (.cells #[u0,u1,u2] t)) none none 0 S:=by
 obtain ⟨g0,g1,g2⟩:=sig_cells w u0 u1 u2 t;exact⟨(brq w).alloc nlq _,g0,g1,g2,by simp,(fun b hb=>by cases hb),(fun x v hx=>by cases hx),(fun b x v hb=>by cases hb)⟩
theorem St.fresh {s:ByteArray} {sort:Bool} {e:Ending} (h:St w u0 u1 u2 W (some b) xb n S) (hp:FreshPost s sort b n S W e W') :
  ∃ c:Bool,(c=true ↔ S (keyN s sort))/\e=.returned (.bool (usableB (Lx.bs s) && !c && (sort || !coreB (Lx.bs s))))/\St w u0 u1 u2 W' (some b) xb (n+1) (fun x=>x=keyN s sort\/S x):=by
 obtain ⟨c,h1,h2,h3,hk⟩:=hp;obtain ⟨m1,m2⟩:=h.mp b rfl;have e:=fun o=>hk.cell (b:=w.heap.size) (o:=o) h.lt (by show ¬ (w.heap.size=b);omega);refine⟨c,h1,h2,h.keep.trans (hk.below (fun j hj=>by omega) h.keep.size),(e 0).trans h.g0,(e 1).trans h.g1,(e 2).trans h.g2,Nat.lt_of_lt_of_le h.lt hk.size,fun b' hb=>?_,fun x v hx=>?_,h.ne⟩
 ·cases hb;exact⟨h3,m2⟩
 ·obtain ⟨q1,q2⟩:=h.bx x v hx;exact⟨(hk.block x (lt_of_block q1) (fun e=>h.ne b x v rfl hx e.symm)).trans q1,q2⟩
end
section
variable {w W:World} {u0 u1 u2 v:Value} {mb:Option Nat} {xb:Option (Nat × Value)} {n b x:Nat} {S:Value->Prop}
theorem St.bxc (h:St w u0 u1 u2 W mb (some (x,v)) n S):W.cell? ⟨x,0,none⟩=some v/\W.frozen? ⟨x,0,none⟩=false:=by
 obtain ⟨q1,_⟩:=h.bx x v rfl;exact⟨by rw [cell_of_cells q1];rfl,frozen_of_cells q1 0⟩
theorem upon_ins {o:Oper} {a:Act} {K:Act->World->Prop} {Q:Exit->Act->World->Prop} (h:St w u0 u1 u2 W (some b) xb n S) (hn:n < maxLen) {key:Value} {kl:Lit} (hkey:keyOf Tryz.prog 325 key=some kl)
  (hK:∀ w',St w u0 u1 u2 w' (some b) xb (n+1) (fun x=>x=key\/S x)->K (a.put o.dst undef) w') :
  o.upon Tryz.prog a K Q ((Sem.run Tryz.prog (Instr.mapUpdate 326 (.map (some b)) key (.bool true)) W).andThen fun _ w'=>Result.ok Next.skip w') :=
 upon_store (P:=Tryz.prog) (k:=325) (e:=4) (t:=326) (b:=b) (n:=n) (S:=S) (h.mp b rfl).1 name_key Tryz.underlying326 Tryz.underlying4 hn hkey fun w' h1 h2=>hK w' (h.ins h1 h2)
end
def SeenIn (a b:List ByteArray) (x:Value):Prop:=(∃ s,s ∈ a/\x=keyN s true)\/∃ s,s ∈ b/\x=keyN s false
theorem keyN_inj {s s':ByteArray} {q q':Bool} (h:keyN s q=keyN s' q'):s=s'/\q=q':=by
 unfold keyN at h
 simpa using h
theorem seen_sort {a b:List ByteArray} {s:ByteArray}:SeenIn a b (keyN s true) ↔ hasB a s=true:=by
 rw [hasB_iff];unfold SeenIn
 constructor
 ·rintro (⟨s',h,e⟩ | ⟨s',h,e⟩)
  ·rw [(keyN_inj e).1];exact h
  ·cases (keyN_inj e).2
 ·intro h;exact .inl ⟨s,h,rfl⟩
theorem seen_name {a b:List ByteArray} {s:ByteArray}:SeenIn a b (keyN s false) ↔ hasB b s=true:=by
 rw [hasB_iff];unfold SeenIn
 constructor
 ·rintro (⟨s',h,e⟩ | ⟨s',h,e⟩)
  ·cases (keyN_inj e).2
  ·rw [(keyN_inj e).1];exact h
 ·intro h;exact .inr ⟨s,h,rfl⟩
theorem seen_more_sort {a a' b:List ByteArray} {s:ByteArray} (h:∀ x,x ∈ a' ↔ x=s\/x ∈ a) (v:Value):(v=keyN s true\/SeenIn a b v) ↔ SeenIn a' b v:=by
 unfold SeenIn
 constructor
 ·rintro (rfl | ⟨x,hx,rfl⟩ | h2)
  ·exact .inl ⟨s,(h s).2 (.inl rfl),rfl⟩
  ·exact .inl ⟨x,(h x).2 (.inr hx),rfl⟩
  ·exact .inr h2
 ·rintro (⟨x,hx,rfl⟩ | h2)
  ·rcases (h x).1 hx with rfl | hx
   ·exact .inl rfl
   ·exact .inr (.inl ⟨x,hx,rfl⟩)
  ·exact .inr (.inr h2)
theorem seen_more_name {a b b':List ByteArray} {s:ByteArray} (h:∀ x,x ∈ b' ↔ x=s\/x ∈ b) (v:Value):(v=keyN s false\/SeenIn a b v) ↔ SeenIn a b' v:=by
 unfold SeenIn
 constructor
 ·rintro (rfl | h2 | ⟨x,hx,rfl⟩)
  ·exact .inr ⟨s,(h s).2 (.inl rfl),rfl⟩
  ·exact .inl h2
  ·exact .inr ⟨x,(h x).2 (.inr hx),rfl⟩
 ·rintro (h2 | ⟨x,hx,rfl⟩)
  ·exact .inr (.inl h2)
  ·rcases (h x).1 hx with rfl | hx
   ·exact .inl rfl
   ·exact .inr (.inr ⟨x,hx,rfl⟩)
theorem mem_take_succ {l:List ByteArray} {k:Nat} {s:ByteArray} (h:l[k]?=some s) (x:ByteArray):x ∈ l.take (k+1) ↔ x=s\/x ∈ l.take k:=by
 rw [List.take_add_one,h,List.mem_append]
 constructor
 ·rintro (h1 | h1)
  ·exact .inr h1
  ·simp at h1;exact .inl h1
 ·rintro (h1 | h1)
  ·exact .inr (by simp [h1])
  ·exact .inl h1
def boolS':ByteArray:={ data:=#[66,111,111,108] }
def intS':ByteArray:={ data:=#[73,110,116] }
theorem seen_start1 (v:Value):(v=keyN intS' true\/(v=keyN boolS' true\/False)) ↔ SeenIn (allSorts []) [] v:=by
 rw [← seen_more_sort (a:=[boolS']) (s:=intS') (by intro x;simp [allSorts,boolS',intS'];exact Or.comm)];refine or_congr Iff.rfl ?_;rw [← seen_more_sort (a:=[]) (s:=boolS') (by intro x;simp)];simp [SeenIn]
theorem seen_start2 (v:Value):(v=keyN boolS' true\/(v=keyN intS' true\/False)) ↔ SeenIn (allSorts []) [] v:=by
 rw [← seen_start1]
 constructor
 ·rintro (h | h | h)
  ·exact .inr (.inl h)
  ·exact .inl h
  ·exact h.elim
 ·rintro (h | h | h)
  ·exact .inr (.inl h)
  ·exact .inl h
  ·exact h.elim
end Sg
end Go.Proofs.YtmcbolkpbklfeaaGreatDoor
