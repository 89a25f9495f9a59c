import Derived.Test.YtpmdcckapddchaaGreatShort
import Derived.Test.YtpmdcckapddchaaGreatMu
/- merged by wip/merge.py from: ElNumM -/
set_option maxRecDepth 100000
set_option maxHeartbeats 51200000
namespace Go.Proofs.YtpmdcckapddchaaGreat
namespace El
open Go.RowKit Go.Maps Dt Sg
theorem isNumX_eq (x:Sexp):isNumX x=(numR x).2.1:=by
 unfold isNumX numR
 cases numN x <;> rfl
theorem numR_lim (x:Sexp):-4611686018427387904<=(numR x).1/\(numR x).1<=4611686018427387904:=by
 unfold numR
 cases h:numN x with
 | none=>simp only;omega
 | some p =>
  unfold numN at h;simp only;have hx:=parseV_lim (Lx.bs x.text)
  split at h
  ·cases h;simp only;omega
  ·split at h
   ·split at h
    ·rename_i y _
     have hy:=parseV_lim (Lx.bs y.text)
     split at h
     ·cases h;simp only;omega
     ·cases h
    ·cases h
   ·cases h
theorem numberM_fst (c:Cx) (x:Sexp) (st:St):(numberM c x st).1=(numR x).1:=by
 unfold numberM numR
 cases numN x <;> rfl
theorem numberM_snd (c:Cx) (x:Sexp) (st:St):(numberM c x st).2=if(numR x).2.2≠0/\c.build=true then failS (numR x).2.2 st else st:=by
 unfold numberM numR
 cases h:numN x <;> simp
theorem isnum_any {w:World} {A:Option Addr} {c:Nat} {x:Sexp} (h:XAt w A c x) :
  Calls Tryz.prog 45 #[.agg #[.int .i8 x.kind,.string x.text,.slice A x.l.length c]] w fun e w'=>e=.returned (.bool (isNumX x))/\Below w.heap.size w w':=by
 rw [isNumX_eq];have XB:=kp (Bk.new w (.cells #[.int .i8 x.kind,.string x.text,.slice A x.l.length c] 30));have B1:=kp ((brq w).alloc nlq (.cells #[.int .i8 x.kind,.string x.text,.slice A x.l.length c] 30));have HN:=kp (fun W (hW:Below w.heap.size w W)=>numeralX_any (h.on hW));unfold NumPost at HN
 go_enter Tryz.func45,Tryz.ntmps45
 go_upto_region 1 with fail
 generalize w.alloc (.cells #[.int .i8 x.kind,.string x.text,.slice A x.l.length c] 30)=w1 at *;obtain ⟨r1,r2,r3,hr⟩:∃ a b c,numR x=(a,b,c):=⟨_,_,_,rfl⟩;rw [hr] at HN;have HR:=kp hr;clear hr;obtain ⟨q0,q1,q2,qf⟩:=Bk.c3 XB.out;go_wp2_with fail
 refine(HN.out w1 B1.out).mono ?_;rintro e w2 ⟨rfl,hb⟩;have B2:=kp (B1.out.trans (hb.mono B1.out.size));clear hb;go_wp2_with fail
 go_ret;exact⟨by rw [HR.out];rfl,B2.out⟩
def NuPost (F:Fix) (known:Int) (w:World) (t:List Node) (At:Option Addr) (n:Int) (st':St) (e:Ending) (w':World):Prop :=
 e=.returned (.int .i64 n)/\Keeps (onMb F) w w'/\∃ A' c',Mk F w' known st' A' c'/\TN w.heap.size t At st'.t A'
theorem number_any {F:Fix} (hF:FixOk F) {w:World} {known:Int} {st:St} {At:Option Addr} {ct:Nat} (hm:Mk F w known st At ct) {A:Option Addr} {c:Nat} {x:Sexp} (h:XAt w A c x) :
  Calls Tryz.prog 47 #[.pointer (some ⟨F.mb,0,none⟩),.agg #[.int .i8 x.kind,.string x.text,.slice A x.l.length c]] w (NuPost F known w st.t At (numberM F.c x st).1 (numberM F.c x st).2):=by
 rw [numberM_fst,numberM_snd];have XB:=kp (Bk.new w (.cells #[.int .i8 x.kind,.string x.text,.slice A x.l.length c] 30));have B1:=kp ((brq w).alloc nlq (.cells #[.int .i8 x.kind,.string x.text,.slice A x.l.length c] 30));have HN:=kp (fun W (hW:Below w.heap.size w W)=>numeralX_any (h.on hW))
 have HP:=kp (show ∀ w' n st' A' c',n=(numR x).1->st'=(if(numR x).2.2≠0/\F.c.build=true then failS (numR x).2.2 st else st)->Keeps (onMb F) w w'->Mk F w' known st' A' c'->TN w.heap.size st.t At st'.t A'->NuPost F known w st.t At (numR x).1 (if(numR x).2.2≠0/\F.c.build=true then failS (numR x).2.2 st else st) (.returned (.int .i64 n)) w' from fun w' n st' A' c' h1 h2 h3 h4 h5=>by
  subst h1;subst h2;exact⟨rfl,h3,A',c',h4,h5⟩)
 generalize NuPost F known w st.t At (numR x).1 (if(numR x).2.2≠0/\F.c.build=true then failS (numR x).2.2 st else st)=PP at *;unfold NumPost at HN;have HM:=kp (hm.keep B1.out)
 go_enter Tryz.func47,Tryz.ntmps47
 go_upto_region 1 with fail
 generalize w.alloc (.cells #[.int .i8 x.kind,.string x.text,.slice A x.l.length c] 30)=w1 at *;generalize numR x=r at *;obtain ⟨r1,r2,r3⟩:=r;obtain ⟨q0,q1,q2,qf⟩:=Bk.c3 XB.out;go_wp2_with fail
 refine(HN.out w1 B1.out).mono ?_;rintro e w2 ⟨rfl,hb⟩;have B2:=kp (B1.out.trans (hb.mono B1.out.size));have HM2:=kp (hm.keep B2.out);clear hb q0 q1 q2 qf HM;obtain ⟨m0,m1,m2,m3,m4,m5,m6,m7,m8,mf⟩:=Bk.c9 HM2.out.blk
 by_cases h3:r3=0
 ·have h3':(r3 != 0)=false:=by simp [h3]
  have HR:=kp (HP.out w2 r1 st At ct rfl (by simp [h3]) (Keeps.of_below B2.out _) HM2.out (TN.refl _ _ _));clear h3;go_wp2_with fail
  exact HR.out
 ·have h3':(r3 != 0)=true:=by simp [h3]
  cases hbu:F.c.build with
  | false =>
   rw [hbu] at m5;have HR:=kp (HP.out w2 r1 st At ct rfl (by simp [hbu]) (Keeps.of_below B2.out _) HM2.out (TN.refl _ _ _));clear h3 hbu;go_wp2_with fail
   exact HR.out
  | true =>
   rw [hbu] at m5;have HS:=kp (show failS r3 st=if r3≠0/\F.c.build=true then failS r3 st else st by rw [if_pos ⟨h3,hbu⟩]);have HFl:=kp (fail_any hF HM2.out r3 h3);clear h3 hbu;go_wp2_with fail
   refine HFl.out.mono ?_;rintro e w5 ⟨rfl,hv,hk,A5,c5,hm5,ht5⟩;have HR:=kp (HP.out w5 r1 _ A5 c5 rfl HS.out ((Keeps.of_below B2.out _).trans_same hk) hm5 (ht5.mono B2.out.size));clear hv hk hm5 ht5;go_wp2_with fail
   exact HR.out
end El
end Go.Proofs.YtpmdcckapddchaaGreat
