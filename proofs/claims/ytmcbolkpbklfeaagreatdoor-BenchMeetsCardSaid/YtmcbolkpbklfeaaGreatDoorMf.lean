import Derived.Test.YtmcbolkpbklfeaaGreatDoorShort
import Derived.Test.YtmcbolkpbklfeaaGreatDoorMd
import Derived.Test.YtmcbolkpbklfeaaGreatDoorMc
import Derived.Lib.IndexLaws
import Derived.Test.YtmcbolkpbklfeaaGreatDoorMa
import Derived.Lib.SlTrimSet
import Derived.Lib.QuoteLoop
import Derived.Lib.Replace
import Derived.Test.YtmcbolkpbklfeaaGreatDoorShelf
import Derived.BigQuiet
import Derived.WalkSmall
import Derived.Lib.Builder
import Derived.Lib.AppendStr
import Derived.Lib.UnsafeStr
import Derived.Deep.RegionHeld3
import Derived.Deep.Cut
import Derived.ChangeKeysEq
import Derived.Test.YtmcbolkpbklfeaaGreatDoorNumParse
/- merged by wip/merge.py from: SexpRead CmdPlain NextP ReadP BnWake BnQuote BnMet SexpDep BnBld BnSeq BnItems SexpHead SexpSize SexpDepth SexpRMay CmdOpen CmdSame CmdSeq CmdSeq2 CmdPar CmdParts SexpStands SexpSame -/
set_option maxRecDepth 100000
set_option maxHeartbeats 51200000
namespace Go.Proofs.YtmcbolkpbklfeaaGreatDoor
namespace Dt
open Go.RowKit
def skipL:Bool->List UInt8->List UInt8
 | _,[]=>[]
 | true,c :: r=>if(c.toNat:Int)=10 then skipL false r else skipL true r
 | false,c :: r=>if Lx.whiteI c.toNat then skipL false r else if(c.toNat:Int)=59 then skipL true r else c :: r
theorem skipL_suffix:∀ (b:Bool) (l:List UInt8),skipL b l <:+ l
 | _,[]=>by unfold skipL;exact List.suffix_refl _
 | true,c :: r=>by
  unfold skipL
  split
  ·exact(skipL_suffix false r).trans (List.suffix_cons c r)
  ·exact(skipL_suffix true r).trans (List.suffix_cons c r)
 | false,c :: r=>by
  unfold skipL
  split
  ·exact(skipL_suffix false r).trans (List.suffix_cons c r)
  ·split
   ·exact(skipL_suffix true r).trans (List.suffix_cons c r)
   ·exact List.suffix_refl _
theorem skipL_idem:∀ (b:Bool) (l:List UInt8),skipL false (skipL b l)=skipL b l
 | _,[]=>by simp [skipL]
 | true,c :: r=>by
  have h1:=skipL_idem false r;have h2:=skipL_idem true r
  conv=>lhs;arg 2;unfold skipL
  conv=>rhs;unfold skipL
  split <;> assumption
 | false,c :: r=>by
  have h1:=skipL_idem false r;have h2:=skipL_idem true r
  by_cases hw:Lx.whiteI c.toNat=true
  ·have e:skipL false (c :: r)=skipL false r:=by rw [skipL,if_pos hw]
   rw [e];exact h1
  ·by_cases hs:(c.toNat:Int)=59
   ·have e:skipL false (c :: r)=skipL true r:=by rw [skipL,if_neg hw,if_pos hs]
    rw [e];exact h2
   ·have e:skipL false (c :: r)=c :: r:=by rw [skipL,if_neg hw,if_neg hs]
    rw [e];exact e
def quotedL:List UInt8->Option (List UInt8 × List UInt8)
 | []=>none
 | c :: r=>if(c.toNat:Int)=124 then some ([],r) else if Lx.insideI c.toNat then(quotedL r).map fun p=>(c :: p.1,p.2) else none
theorem quotedL_split:∀ {l:List UInt8} {n t:List UInt8},quotedL l=some (n,t)->l=n ++ 124 :: t/\(n.all fun c=>Lx.insideI c.toNat)=true
 | [],n,t,h=>by simp [quotedL] at h
 | c :: r,n,t,h=>by
  unfold quotedL at h
  split at h
  ·rename_i hc
   simp only [Option.some.injEq,Prod.mk.injEq] at h;obtain ⟨rfl,rfl⟩:=h;have:c=124:=by apply UInt8.toNat_inj.1;show c.toNat=124;omega
   subst this;exact⟨rfl,rfl⟩
  ·split at h
   ·rename_i hin
    cases hq:quotedL r with
    | none=>rw [hq] at h;simp at h
    | some p =>
     rw [hq] at h;simp only [Option.map_some,Option.some.injEq,Prod.mk.injEq] at h;obtain ⟨rfl,rfl⟩:=h;obtain ⟨h1,h2⟩:=quotedL_split (n:=p.1) (t:=p.2) hq;exact⟨by rw [List.cons_append,← h1],by rw [List.all_cons,hin,h2];rfl⟩
   ·cases h
def sgn (c:UInt8):Bool:=Lx.signI c.toNat
inductive Tk where
 | none
 | bad
 | tok (k:Int) (t r:List UInt8)
def nextL:List UInt8->Tk
 | []=>.none
 | c :: r =>
  if(c.toNat:Int)=40 then .tok 0 [] r
  else if(c.toNat:Int)=41 then .tok 1 [] r
  else if(c.toNat:Int)=124 then match quotedL r with
   | some p=>if p.1.length<=100 then .tok 2 p.1 p.2 else .bad
   | .none=>.bad
  else if(c.toNat:Int)=58 then(if(r.takeWhile sgn).length=0\/100 < (r.takeWhile sgn).length then .bad else .tok 4 (r.takeWhile sgn) (r.dropWhile sgn))
  else if((c :: r).takeWhile sgn).length=0\/100 < ((c :: r).takeWhile sgn).length then .bad
  else if Lx.digitI c.toNat then(if isNum ((c :: r).takeWhile sgn) then .tok 3 ((c :: r).takeWhile sgn) ((c :: r).dropWhile sgn) else .bad)
  else .tok 2 ((c :: r).takeWhile sgn) ((c :: r).dropWhile sgn)
theorem nextL_cons (c:UInt8) (r:List UInt8):nextL (c :: r) =
  if(c.toNat:Int)=40 then .tok 0 [] r
  else if(c.toNat:Int)=41 then .tok 1 [] r
  else if(c.toNat:Int)=124 then match quotedL r with
   | some p=>if p.1.length<=100 then .tok 2 p.1 p.2 else .bad
   | .none=>.bad
  else if(c.toNat:Int)=58 then(if(r.takeWhile sgn).length=0\/100 < (r.takeWhile sgn).length then .bad else .tok 4 (r.takeWhile sgn) (r.dropWhile sgn))
  else if((c :: r).takeWhile sgn).length=0\/100 < ((c :: r).takeWhile sgn).length then .bad
  else if Lx.digitI c.toNat then(if isNum ((c :: r).takeWhile sgn) then .tok 3 ((c :: r).takeWhile sgn) ((c :: r).dropWhile sgn) else .bad)
  else .tok 2 ((c :: r).takeWhile sgn) ((c :: r).dropWhile sgn):=rfl
inductive Rd:List UInt8->Sexp->List UInt8->Prop
 | name {l t r:List UInt8} {s:ByteArray} (h:nextL (skipL false l)=.tok 2 t r) (hs:Lx.bs s=t):Rd l (.mk 0 s []) r
 | num {l t r:List UInt8} {s:ByteArray} (h:nextL (skipL false l)=.tok 3 t r) (hs:Lx.bs s=t):Rd l (.mk 1 s []) r
 | key {l t r:List UInt8} {s:ByteArray} (h:nextL (skipL false l)=.tok 4 t r) (hs:Lx.bs s=t):Rd l (.mk 2 s []) r
 | list {l r rest:List UInt8} {xs:List Sexp} (f:Nat->List UInt8) (h:nextL (skipL false l)=.tok 0 [] r) (h0:f 0=r)
   (hc:∀ i,i < xs.length->∀ t q,nextL (skipL false (f i))≠.tok 1 t q) (hx:∀ i x,xs[i]?=some x->Rd (f i) x (f (i+1))) (hn:nextL (skipL false (f xs.length))=.tok 1 [] rest):Rd l (.mk 3 { data:=#[] } xs) rest
theorem Rd.skip {l m r:List UInt8} {x:Sexp} (h:Rd l x r) (e:skipL false l=skipL false m):Rd m x r:=by
 cases h with
 | name h hs=>exact .name (e ▸ h) hs
 | num h hs=>exact .num (e ▸ h) hs
 | key h hs=>exact .key (e ▸ h) hs
 | list f h h0 hc hx hn=>exact .list f (e ▸ h) h0 hc hx hn
mutual
def Sexp.textL:Sexp->List UInt8
 | .mk k t l=>if k=0 then Lx.quoteL (Lx.bs t) else if k=2 then 58 :: Lx.bs t else if k=3 then 40 :: (Sexp.textsL l ++ [41]) else Lx.bs t
def Sexp.textsL:List Sexp->List UInt8
 | []=>[]
 | x :: r=>Sexp.textL x ++ Sexp.restsL r
def Sexp.restsL:List Sexp->List UInt8
 | []=>[]
 | x :: r=>32 :: (Sexp.textL x ++ Sexp.restsL r)
end
def HeadOk (l:List UInt8):Prop:=∃ c r,l=c :: r/\Lx.whiteI c.toNat=false/\(c.toNat:Int)≠59/\(c.toNat:Int)≠41
theorem HeadOk.append {l m:List UInt8} (h:HeadOk l):HeadOk (l ++ m):=by
 obtain ⟨c,r,rfl,h⟩:=h;exact⟨c,r ++ m,rfl,h⟩
theorem HeadOk.skip {l:List UInt8} (h:HeadOk l):skipL false l=l:=by
 obtain ⟨c,r,rfl,h1,h2,_⟩:=h;rw [skipL,if_neg (by rw [h1];simp),if_neg h2]
theorem nextL_suffix {l:List UInt8} {k:Int} {t r:List UInt8} (h:nextL l=.tok k t r):r <:+ l/\r.length < l.length:=by
 cases l with
 | nil=>unfold nextL at h;cases h
 | cons c l =>
  have hd:∀ m:List UInt8,m.dropWhile sgn <:+ m:=fun m=>List.dropWhile_suffix _;rw [nextL_cons] at h
  split at h
  ·simp only [Tk.tok.injEq] at h;obtain ⟨_,_,rfl⟩:=h;exact⟨List.suffix_cons c l,by simp⟩
  ·split at h
   ·simp only [Tk.tok.injEq] at h;obtain ⟨_,_,rfl⟩:=h;exact⟨List.suffix_cons c l,by simp⟩
   ·split at h
    ·split at h
     ·rename_i p hq
      split at h
      ·simp only [Tk.tok.injEq] at h;obtain ⟨_,rfl,rfl⟩:=h;obtain ⟨e,_⟩:=quotedL_split (n:=p.1) (t:=p.2) hq;rw [e];exact⟨⟨c :: p.1 ++ [124],by simp⟩,by simp;omega⟩
      ·cases h
     ·cases h
    ·split at h
     ·split at h
      ·cases h
      ·simp only [Tk.tok.injEq] at h;obtain ⟨_,_,rfl⟩:=h;have:=(hd l);exact⟨this.trans (List.suffix_cons c l),by have:=this.length_le;simp;omega⟩
     ·split at h
      ·cases h
      ·rename_i hn
       have hs:=hd (c :: l)
       have hlen:((c :: l).dropWhile sgn).length < (c :: l).length:=by
        have e:=congrArg List.length (List.takeWhile_append_dropWhile (p:=sgn) (l:=c :: l));rw [List.length_append] at e
        omega
       split at h
       ·split at h
        ·simp only [Tk.tok.injEq] at h;obtain ⟨_,_,rfl⟩:=h;exact⟨hs,hlen⟩
        ·cases h
       ·simp only [Tk.tok.injEq] at h;obtain ⟨_,_,rfl⟩:=h;exact⟨hs,hlen⟩
theorem next_skip_suffix {l:List UInt8} {k:Int} {t r:List UInt8} (h:nextL (skipL false l)=.tok k t r):r <:+ l :=
 (nextL_suffix h).1.trans (skipL_suffix false l)
theorem Rd.suffix {l r:List UInt8} {x:Sexp} (h:Rd l x r):r <:+ l:=by
 induction h with
 | name h hs=>exact next_skip_suffix h
 | num h hs=>exact next_skip_suffix h
 | key h hs=>exact next_skip_suffix h
 | @list l r rest xs f h h0 hc hx hn ih =>
  have hstep:∀ k,k<=xs.length->f k <:+ r:=by
   intro k
   induction k with
   | zero=>intro _;rw [h0];exact List.suffix_refl _
   | succ k ihk=>intro hk;exact(ih k xs[k] (gqe (by omega))).trans (ihk (by omega))
  exact(next_skip_suffix hn).trans ((hstep _ nlq).trans (next_skip_suffix h))
theorem suffix_drop {l s:List UInt8} (h:l <:+ s):s.drop (s.length - l.length)=l:=by
 obtain ⟨p,rfl⟩:=h;rw [List.length_append,Nat.add_sub_cancel,List.drop_left]
theorem Rd.once {l r:List UInt8} {x:Sexp} (h:Rd l x r):∀ {y:Sexp} {q:List UInt8},Rd l y q->x=y/\r=q:=by
 induction h with
 | name h hs=>
  intro y q h2
  cases h2 with
  | name h' hs'=>rw [h] at h';simp only [Tk.tok.injEq,true_and] at h';obtain ⟨rfl,rfl⟩:=h';exact⟨by rw [Lx.bs_inj.1 (hs.trans hs'.symm)],rfl⟩
  | num h' hs'=>rw [h] at h';simp at h'
  | key h' hs'=>rw [h] at h';simp at h'
  | list f h' h0 hc hx hn=>rw [h] at h';simp at h'
 | num h hs=>
  intro y q h2
  cases h2 with
  | num h' hs'=>rw [h] at h';simp only [Tk.tok.injEq,true_and] at h';obtain ⟨rfl,rfl⟩:=h';exact⟨by rw [Lx.bs_inj.1 (hs.trans hs'.symm)],rfl⟩
  | name h' hs'=>rw [h] at h';simp at h'
  | key h' hs'=>rw [h] at h';simp at h'
  | list f h' h0 hc hx hn=>rw [h] at h';simp at h'
 | key h hs=>
  intro y q h2
  cases h2 with
  | key h' hs'=>rw [h] at h';simp only [Tk.tok.injEq,true_and] at h';obtain ⟨rfl,rfl⟩:=h';exact⟨by rw [Lx.bs_inj.1 (hs.trans hs'.symm)],rfl⟩
  | name h' hs'=>rw [h] at h';simp at h'
  | num h' hs'=>rw [h] at h';simp at h'
  | list f h' h0 hc hx hn=>rw [h] at h';simp at h'
 | @list l r rest xs f h h0 hc hx hn ih =>
  intro y q h2
  cases h2 with
  | key h' hs'=>rw [h] at h';simp at h'
  | name h' hs'=>rw [h] at h';simp at h'
  | num h' hs'=>rw [h] at h';simp at h'
  | @list _ r' _ ys f' h' h0' hc' hx' hn' =>
   rw [h] at h';simp only [Tk.tok.injEq,true_and] at h';subst h'
   have hf:∀ k,k<=xs.length->k<=ys.length->f k=f' k/\xs.take k=ys.take k:=by
    intro k
    induction k with
    | zero=>intro _ _;rw [h0,h0'];exact⟨rfl,rfl⟩
    | succ k ihk =>
     intro h1 h2;obtain ⟨e1,e2⟩:=ihk (by omega) (by omega);have a:=gqe (show k < ys.length by omega);have b:=gqe (show k < xs.length by omega);have hr:=hx' k _ a;rw [← e1] at hr;obtain ⟨p1,p2⟩:=ih k _ b hr;exact⟨p2,by rw [List.take_succ_eq_append_getElem (by omega),List.take_succ_eq_append_getElem (by omega),e2,p1]⟩
   have hl:xs.length=ys.length:=by
    rcases Nat.lt_trichotomy xs.length ys.length with g | g | g
    ·exact absurd ((hf _ nlq (by omega)).1 ▸ hn) (hc' _ g _ _)
    ·exact g
    ·exact absurd ((hf _ (by omega) nlq).1 ▸ hn') (hc _ g _ _)
   obtain ⟨e1,e2⟩:=hf xs.length nlq (by omega);rw [hl] at e2;rw [← hl,List.take_length,hl,List.take_length] at e2;rw [e1,hl] at hn;rw [hn] at hn';simp only [Tk.tok.injEq,true_and] at hn';exact⟨by rw [e2],hn'⟩
def sLogic:ByteArray:={ data:=#[115,101,116,45,108,111,103,105,99] }
def sOption:ByteArray:={ data:=#[115,101,116,45,111,112,116,105,111,110] }
def sSort:ByteArray:={ data:=#[100,101,99,108,97,114,101,45,115,111,114,116] }
def sFun:ByteArray:={ data:=#[100,101,99,108,97,114,101,45,102,117,110] }
def sDefine:ByteArray:={ data:=#[100,101,102,105,110,101,45,102,117,110] }
def sAssert:ByteArray:={ data:=#[97,115,115,101,114,116] }
def sPush:ByteArray:={ data:=#[112,117,115,104] }
def sPop:ByteArray:={ data:=#[112,111,112] }
def sCheck:ByteArray:={ data:=#[99,104,101,99,107,45,115,97,116] }
def sModel:ByteArray:={ data:=#[103,101,116,45,109,111,100,101,108] }
def sValue:ByteArray:={ data:=#[103,101,116,45,118,97,108,117,101] }
def sProof:ByteArray:={ data:=#[103,101,116,45,112,114,111,111,102] }
def sExit:ByteArray:={ data:=#[101,120,105,116] }
def sBudget:ByteArray:={ data:=#[98,117,100,103,101,116] }
def sSeeds:ByteArray:={ data:=#[115,101,101,100,115] }
structure Cmd where
 kind:Int
 name:ByteArray
 n:Int
 l:List Int
 args:List ByteArray
 params:List (ByteArray × ByteArray)
 res:ByteArray
 terms:List Sexp
def noS:ByteArray:={ data:=#[] }
def noCmd:Cmd:=⟨0,noS,0,[],[],[],noS,[]⟩
def smallN (x:Sexp) (most:Int):Option Int:=if x.kind=1/\parseE (Lx.bs x.text)=0/\parseV (Lx.bs x.text)<=most then some (parseV (Lx.bs x.text)) else none
def symN (x:Sexp):Option ByteArray:=if x.kind=0 then some x.text else none
def listN (x:Sexp):Option (List Sexp):=if x.kind=3 then some x.l else none
def eachO {α β:Type} (f:α->Option β):List α->Option (List β)
 | []=>some []
 | x :: r=>(f x).bind fun y=>(eachO f r).map fun l=>y :: l
def namesN (x:Sexp):Option (List ByteArray):=(listN x).bind (eachO symN)
def pairN (x:Sexp):Option (ByteArray × ByteArray):=(namesN x).bind fun l=>match l with
 | [a,b]=>some (a,b)
 | _=>none
def paramsN (x:Sexp):Option (List (ByteArray × ByteArray)):=(listN x).bind (eachO pairN)
def seedsN (x:Sexp):Option (List Int):=(listN x).bind fun l=>if l.length<=64 then eachO (fun y=>smallN y 1048576) l else none
def optionO (r:List Sexp):Option Cmd:=match r with
 | [k,x] =>
  if k.kind=2 then
   if k.text=sBudget then(smallN x 1048576).map fun n=>{ noCmd with kind:=1,name:=k.text,n:=n }
   else if k.text=sSeeds then(seedsN x).map fun l=>{ noCmd with kind:=1,name:=k.text,l:=l }
   else none
  else none
 | _=>none
def sortO (r:List Sexp):Option Cmd:=match r with
 | [s,x]=>(symN s).bind fun t=>(smallN x 0).map fun _=>{ noCmd with kind:=2,name:=t }
 | _=>none
def funO (r:List Sexp):Option Cmd:=match r with
 | [s,x,t]=>(symN s).bind fun a=>(namesN x).bind fun l=>if l.length<=3 then(symN t).map fun b=>{ noCmd with kind:=3,name:=a,args:=l,res:=b } else none
 | _=>none
def defineO (r:List Sexp):Option Cmd:=match r with
 | [s,x,t,y]=>(symN s).bind fun a=>(paramsN x).bind fun l=>if l.length<=3 then(symN t).map fun b=>{ noCmd with kind:=4,name:=a,params:=l,res:=b,terms:=[y] } else none
 | _=>none
def valueO (r:List Sexp):Option Cmd:=match r with
 | [x]=>(listN x).bind fun l=>if 1<=l.length/\l.length<=16 then some { noCmd with kind:=10,terms:=l } else none
 | _=>none
def oneO (r:List Sexp) (f:Sexp->Option Cmd):Option Cmd:=match r with
 | [x]=>f x
 | _=>none
def bareO (r:List Sexp) (k:Int):Option Cmd:=match r with
 | []=>some { noCmd with kind:=k }
 | _=>none
def formO (h:ByteArray) (r:List Sexp):Option Cmd :=
 if h=sCheck then bareO r 8 else if h=sModel then bareO r 9 else if h=sProof then bareO r 11 else if h=sExit then bareO r 12
 else if h=sLogic then oneO r fun x=>(symN x).map fun t=>{ noCmd with kind:=0,name:=t }
 else if h=sOption then optionO r
 else if h=sSort then sortO r
 else if h=sFun then funO r
 else if h=sDefine then defineO r
 else if h=sAssert then oneO r fun x=>some { noCmd with kind:=5,terms:=[x] }
 else if h=sPush then oneO r fun x=>(smallN x 8).map fun n=>{ noCmd with kind:=6,n:=n }
 else if h=sPop then oneO r fun x=>(smallN x 8).map fun n=>{ noCmd with kind:=7,n:=n }
 else if h=sValue then valueO r
 else none
def parseO (x:Sexp):Option Cmd:=match x.l with
 | []=>none
 | y :: r=>if x.kind=3/\y.kind=0 then formO y.text r else none
def cmdO (x:Sexp):Option Cmd:=if x.may then parseO x else none
def symX (s:ByteArray):Sexp:=.mk 0 s []
def numX (n:Int):Sexp:=.mk 1 ⟨(textL n).toArray⟩ []
def listX (l:List Sexp):Sexp:=.mk 3 noS l
def pairX (p:ByteArray × ByteArray):Sexp:=listX [symX p.1,symX p.2]
def writeL (c:Cmd):List Sexp :=
 if c.kind=0 then [symX sLogic,symX c.name]
 else if c.kind=1 then [symX sOption,.mk 2 c.name [],if c.name=sBudget then numX c.n else listX (c.l.map numX)]
 else if c.kind=2 then [symX sSort,symX c.name,numX 0]
 else if c.kind=3 then [symX sFun,symX c.name,listX (c.args.map symX),symX c.res]
 else if c.kind=4 then [symX sDefine,symX c.name,listX (c.params.map pairX),symX c.res] ++ c.terms
 else if c.kind=5 then symX sAssert :: c.terms
 else if c.kind=6 then [symX sPush,numX c.n]
 else if c.kind=7 then [symX sPop,numX c.n]
 else if c.kind=8 then [symX sCheck]
 else if c.kind=9 then [symX sModel]
 else if c.kind=10 then [symX sValue,listX c.terms]
 else if c.kind=11 then [symX sProof]
 else if c.kind=12 then [symX sExit]
 else []
def writeX (c:Cmd):Sexp:=listX (writeL c)
theorem smallN_back {x:Sexp} {m n:Int} (hs:x.stands=true) (h:smallN x m=some n):numX n=x:=by
 unfold smallN at h
 split at h
 ·rename_i hc
  obtain ⟨h1,h2,h3⟩:=hc;obtain rfl:parseV (Lx.bs x.text)=n:=Option.some.inj h;have ht:=(text_of_parse h2).2.2;rw [Sexp.stands_eq,h1,if_neg (by decide),if_pos rfl] at hs;simp only [Bool.and_eq_true,List.isEmpty_iff] at hs
  cases x with
  | mk k t l =>
   obtain rfl:k=1:=h1;obtain rfl:l=[]:=hs.1;unfold numX
   congr 1
   show _=t;have e:textL (parseV (Lx.bs t))=Lx.bs t:=ht;show ByteArray.mk (textL (parseV (Lx.bs t))).toArray=t;rw [e]
   apply Lx.bs_inj.1
   unfold Lx.bs;simp
 ·cases h
theorem symN_back {x:Sexp} {t:ByteArray} (hs:x.stands=true) (h:symN x=some t):symX t=x:=by
 unfold symN at h
 split at h
 ·rename_i h1
  obtain rfl:=Option.some.inj h;rw [Sexp.stands_eq,if_pos h1] at hs;simp only [Bool.and_eq_true,List.isEmpty_iff] at hs
  cases x with
  | mk k t l =>
   obtain rfl:k=0:=h1;obtain rfl:l=[]:=hs.1
   rfl
 ·cases h
theorem listN_back {x:Sexp} {l:List Sexp} (hs:x.stands=true) (h:listN x=some l):listX l=x/\Sexp.standsL l=true:=by
 unfold listN at h
 split at h
 ·rename_i h1
  obtain rfl:=Option.some.inj h;rw [Sexp.stands_eq,h1,if_neg (by decide),if_neg (by decide),if_neg (by decide),if_pos rfl] at hs;simp only [Bool.and_eq_true,List.isEmpty_iff] at hs
  cases x with
  | mk k t l =>
   obtain rfl:k=3:=h1;have ht:Lx.bs t=[]:=hs.1;obtain rfl:t=noS:=Lx.bs_inj.1 ht;exact⟨rfl,by simpa using hs.2⟩
 ·cases h
theorem key_back {x:Sexp} (hs:x.stands=true) (h:x.kind=2):Sexp.mk 2 x.text []=x:=by
 rw [Sexp.stands_eq,h,if_neg (by decide),if_neg (by decide),if_pos rfl] at hs
 cases x with
 | mk k t l =>
  obtain rfl:k=2:=h;simp only [Bool.and_eq_true,List.isEmpty_iff] at hs;obtain rfl:l=[]:=hs.1
  rfl
theorem eachO_back {α:Type} {f:Sexp->Option α} {g:α->Sexp} (hg:∀ x y,x.stands=true->f x=some y->g y=x):∀ {l:List Sexp} {r:List α},Sexp.standsL l=true->eachO f l=some r->r.map g=l
 | [],r,_,h=>by simp only [eachO,Option.some.injEq] at h;subst h;rfl
 | x :: l,r,hs,h=>by
  rw [Sexp.standsL,Bool.and_eq_true] at hs;unfold eachO at h
  cases hx:f x with
  | none=>rw [hx] at h;cases h
  | some y =>
   rw [hx] at h;simp only [Option.bind_some] at h
   cases hl:eachO f l with
   | none=>rw [hl] at h;cases h
   | some q =>
    rw [hl] at h;simp only [Option.map_some,Option.some.injEq] at h;subst h;rw [List.map_cons,hg x y hs.1 hx,eachO_back hg hs.2 hl]
theorem namesN_back {x:Sexp} {l:List ByteArray} (hs:x.stands=true) (h:namesN x=some l):listX (l.map symX)=x:=by
 unfold namesN at h
 cases hl:listN x with
 | none=>rw [hl] at h;cases h
 | some q =>
  rw [hl] at h;obtain ⟨h1,h2⟩:=listN_back hs hl;rw [eachO_back (fun x y a b=>symN_back a b) h2 h,h1]
theorem pairN_back {x:Sexp} {p:ByteArray × ByteArray} (hs:x.stands=true) (h:pairN x=some p):pairX p=x:=by
 unfold pairN at h
 cases hl:namesN x with
 | none=>rw [hl] at h;cases h
 | some q =>
  rw [hl] at h;have:=namesN_back hs hl;simp only [Option.bind_some] at h
  split at h
  ·obtain rfl:=Option.some.inj h;exact this
  ·cases h
theorem paramsN_back {x:Sexp} {l:List (ByteArray × ByteArray)} (hs:x.stands=true) (h:paramsN x=some l):listX (l.map pairX)=x:=by
 unfold paramsN at h
 cases hl:listN x with
 | none=>rw [hl] at h;cases h
 | some q =>
  rw [hl] at h;obtain ⟨h1,h2⟩:=listN_back hs hl;rw [eachO_back (fun x y a b=>pairN_back a b) h2 h,h1]
theorem seedsN_back {x:Sexp} {l:List Int} (hs:x.stands=true) (h:seedsN x=some l):listX (l.map numX)=x:=by
 unfold seedsN at h
 cases hl:listN x with
 | none=>rw [hl] at h;cases h
 | some q =>
  rw [hl] at h;obtain ⟨h1,h2⟩:=listN_back hs hl;simp only [Option.bind_some] at h
  split at h
  ·rw [eachO_back (fun x y a b=>smallN_back a b) h2 h,h1]
  ·cases h
theorem bind_some' {α β:Type} {o:Option α} {f:α->Option β} {b:β} (h:o.bind f=some b):∃ a,o=some a/\f a=some b:=by
 cases o with
 | none=>cases h
 | some a=>exact⟨a,rfl,h⟩
theorem map_some' {α β:Type} {o:Option α} {f:α->β} {b:β} (h:o.map f=some b):∃ a,o=some a/\f a=b:=by
 cases o with
 | none=>cases h
 | some a=>exact⟨a,rfl,Option.some.inj h⟩
theorem bareO_back {r:List Sexp} {k:Int} {c:Cmd} (h:bareO r k=some c):r=[]/\c={ noCmd with kind:=k }:=by
 unfold bareO at h
 split at h
 ·exact⟨rfl,(Option.some.inj h).symm⟩
 ·cases h
theorem oneO_back {r:List Sexp} {f:Sexp->Option Cmd} {c:Cmd} (h:oneO r f=some c):∃ x,r=[x]/\f x=some c:=by
 unfold oneO at h
 split at h
 ·exact⟨_,rfl,h⟩
 ·cases h
theorem formO_back {h:ByteArray} {r:List Sexp} {c:Cmd} (hs:Sexp.standsL r=true) (e:formO h r=some c):writeL c=symX h :: r:=by
 unfold formO at e
 by_cases q:h=sCheck
 ·rw [if_pos q] at e;subst q;obtain ⟨rfl,rfl⟩:=bareO_back e;rfl
 rw [if_neg q] at e
 by_cases q:h=sModel
 ·rw [if_pos q] at e;subst q;obtain ⟨rfl,rfl⟩:=bareO_back e;rfl
 rw [if_neg q] at e
 by_cases q:h=sProof
 ·rw [if_pos q] at e;subst q;obtain ⟨rfl,rfl⟩:=bareO_back e;rfl
 rw [if_neg q] at e
 by_cases q:h=sExit
 ·rw [if_pos q] at e;subst q;obtain ⟨rfl,rfl⟩:=bareO_back e;rfl
 rw [if_neg q] at e
 by_cases q:h=sLogic
 ·rw [if_pos q] at e;subst q;obtain ⟨x,rfl,e⟩:=oneO_back e;obtain ⟨t,e0,rfl⟩:=map_some' e;simp only [Sexp.standsL,Bool.and_eq_true] at hs;have:=symN_back hs.1 e0;subst this;rfl
 rw [if_neg q] at e
 by_cases q:h=sOption
 ·rw [if_pos q] at e;subst q;unfold optionO at e
  split at e
  ·simp only [Sexp.standsL,Bool.and_eq_true] at hs
   split at e
   ·rename_i hk
    have hkb:=key_back hs.1 hk
    split at e
    ·rename_i hb
     obtain ⟨n,e0,rfl⟩:=map_some' e;have:=smallN_back hs.2.1 e0;unfold writeL;rw [if_neg (by simp),if_pos rfl];simp only [if_pos hb];rw [hkb,this]
    ·rename_i hb
     split at e
     ·obtain ⟨l,e0,rfl⟩:=map_some' e;have:=seedsN_back hs.2.1 e0;unfold writeL;rw [if_neg (by simp),if_pos rfl];simp only [if_neg hb];rw [hkb,this]
     ·cases e
   ·cases e
  ·cases e
 rw [if_neg q] at e
 by_cases q:h=sSort
 ·rw [if_pos q] at e;subst q;unfold sortO at e
  split at e
  ·simp only [Sexp.standsL,Bool.and_eq_true] at hs;obtain ⟨t,e1,e⟩:=bind_some' e;obtain ⟨n,e2,rfl⟩:=map_some' e;have h1:=symN_back hs.1 e1;have h2:=smallN_back hs.2.1 e2
   have hn:n=0:=by
    unfold smallN at e2
    split at e2
    ·rename_i hc
     have:=(text_of_parse hc.2.1).1;have:=Option.some.inj e2
     omega
    ·cases e2
   subst hn;unfold writeL;rw [if_neg (by simp),if_neg (by simp),if_pos rfl,h2];simp only;rw [h1]
  ·cases e
 rw [if_neg q] at e
 by_cases q:h=sFun
 ·rw [if_pos q] at e;subst q;unfold funO at e
  split at e
  ·simp only [Sexp.standsL,Bool.and_eq_true] at hs;obtain ⟨t,e1,e⟩:=bind_some' e;obtain ⟨l,e2,e⟩:=bind_some' e
   split at e
   ·obtain ⟨b,e3,rfl⟩:=map_some' e;have h1:=symN_back hs.1 e1;have h2:=namesN_back hs.2.1 e2;have h3:=symN_back hs.2.2.1 e3;unfold writeL;rw [if_neg (by simp),if_neg (by simp),if_neg (by simp),if_pos rfl];simp only;rw [h1,h2,h3]
   ·cases e
  ·cases e
 rw [if_neg q] at e
 by_cases q:h=sDefine
 ·rw [if_pos q] at e;subst q;unfold defineO at e
  split at e
  ·simp only [Sexp.standsL,Bool.and_eq_true] at hs;obtain ⟨t,e1,e⟩:=bind_some' e;obtain ⟨l,e2,e⟩:=bind_some' e
   split at e
   ·obtain ⟨b,e3,rfl⟩:=map_some' e;have h1:=symN_back hs.1 e1;have h2:=paramsN_back hs.2.1 e2;have h3:=symN_back hs.2.2.1 e3;unfold writeL;rw [if_neg (by simp),if_neg (by simp),if_neg (by simp),if_neg (by simp),if_pos rfl];simp only;rw [h1,h2,h3]
    rfl
   ·cases e
  ·cases e
 rw [if_neg q] at e
 by_cases q:h=sAssert
 ·rw [if_pos q] at e;subst q;obtain ⟨x,rfl,e⟩:=oneO_back e;obtain rfl:=Option.some.inj e
  rfl
 rw [if_neg q] at e
 by_cases q:h=sPush
 ·rw [if_pos q] at e;subst q;obtain ⟨x,rfl,e⟩:=oneO_back e;obtain ⟨n,e0,rfl⟩:=map_some' e;simp only [Sexp.standsL,Bool.and_eq_true] at hs;have:=smallN_back hs.1 e0;subst this;rfl
 rw [if_neg q] at e
 by_cases q:h=sPop
 ·rw [if_pos q] at e;subst q;obtain ⟨x,rfl,e⟩:=oneO_back e;obtain ⟨n,e0,rfl⟩:=map_some' e;simp only [Sexp.standsL,Bool.and_eq_true] at hs;have:=smallN_back hs.1 e0;subst this;rfl
 rw [if_neg q] at e
 by_cases q:h=sValue
 ·rw [if_pos q] at e;subst q;unfold valueO at e
  split at e
  ·simp only [Sexp.standsL,Bool.and_eq_true] at hs;obtain ⟨l,e1,e⟩:=bind_some' e
   split at e
   ·obtain rfl:=Option.some.inj e;have h1:=(listN_back hs.1 e1).1;unfold writeL;rw [if_neg (by simp),if_neg (by simp),if_neg (by simp),if_neg (by simp),if_neg (by simp),if_neg (by simp),if_neg (by simp),if_neg (by simp),if_neg (by simp),if_neg (by simp),if_pos rfl];simp only;rw [h1]
   ·cases e
  ·cases e
 ·rw [if_neg q] at e;cases e
theorem cmdO_back {x:Sexp} {c:Cmd} (h:cmdO x=some c):writeX c=x/\x.may=true:=by
 unfold cmdO at h
 split at h
 ·rename_i hm
  refine⟨?_,hm⟩;have hs:=hm;unfold Sexp.may at hs;rw [Bool.and_eq_true] at hs;replace hs:=hs.2;unfold parseO at h
  split at h
  ·cases h
  ·rename_i y r hl
   split at h
   ·rename_i hk
    obtain ⟨h1,h2⟩:=listN_back (l:=x.l) hs (by unfold listN;rw [if_pos hk.1]);rw [hl,Sexp.standsL,Bool.and_eq_true] at h2;have h3:=symN_back (t:=y.text) h2.1 (by unfold symN;rw [if_pos hk.2]);have:=formO_back h2.2 h;unfold writeX;rw [this,h3,← hl,h1]
   ·cases h
 ·cases h
def mayC (c:Cmd):Prop:=cmdO (writeX c)=some c
theorem mayC_back {x:Sexp} {c:Cmd} (h:cmdO x=some c):mayC c:=by
 unfold mayC;rw [(cmdO_back h).1,h]
def from_ (s:ByteArray) (k:Nat):List UInt8:=(Lx.bs s).drop k
theorem from_at {s:ByteArray} {k:Nat} (hk:k < s.size):from_ s k=s[k] :: from_ s (k+1):=by
 unfold from_;have h:k < (Lx.bs s).length:=by rw [Lx.bs_length];exact hk
 rw [List.drop_eq_getElem_cons h]
 congr 1
theorem from_end {s:ByteArray} {k:Nat} (hk:s.size<=k):from_ s k=[]:=by
 unfold from_;exact List.drop_eq_nil_of_le (by rw [Lx.bs_length];exact hk)
theorem from_len (s:ByteArray) (k:Nat):(from_ s k).length=s.size - k:=by unfold from_;rw [List.length_drop,Lx.bs_length]
def at_ (s:ByteArray) (l:List UInt8):Nat:=s.size - l.length
theorem from_of_suffix {s:ByteArray} {l:List UInt8} {k:Nat} (h:l <:+ from_ s k):from_ s (at_ s l)=l/\at_ s l<=s.size/\(k<=s.size->k<=at_ s l):=by
 have hl:=h.length_le;rw [from_len] at hl;have hs:l <:+ Lx.bs s:=h.trans (List.drop_suffix _ _);have:=suffix_drop hs;rw [Lx.bs_length] at this;refine⟨this,Nat.sub_le _ _,fun hk=>?_⟩;unfold at_
 omega
theorem at_from {s:ByteArray} {k:Nat} (hk:k<=s.size):at_ s (from_ s k)=k:=by unfold at_;rw [from_len];omega
def skipP (s:ByteArray) (k:Nat):Nat:=at_ s (skipL false (from_ s k))
theorem skip_white {c:UInt8} {r:List UInt8} (h:Lx.whiteI (c.toNat:Int)=true):skipL false (c :: r)=skipL false r:=by rw [skipL,if_pos h]
theorem skip_semi {c:UInt8} {r:List UInt8} (h:Lx.whiteI (c.toNat:Int)=false) (h2:(c.toNat:Int)=59):skipL false (c :: r)=skipL true (c :: r):=by
 have h3:¬ (c.toNat:Int)=10:=by omega
 conv=>lhs;rw [skipL,if_neg (by rw [h];decide),if_pos h2]
 rw [skipL,if_neg h3]
theorem skip_stop {c:UInt8} {r:List UInt8} (h:Lx.whiteI (c.toNat:Int)=false) (h2:¬ (c.toNat:Int)=59):skipL false (c :: r)=c :: r:=by rw [skipL,h,if_neg (by decide),if_neg h2]
def runN (s:ByteArray) (k:Nat):Nat:=((from_ s k).takeWhile sgn).length
theorem runN_more {s:ByteArray} {k:Nat} (hk:k < s.size) (h:Lx.signI (s[k].toNat:Int)=true):runN s k=runN s (k+1)+1:=by
 unfold runN;rw [from_at hk,List.takeWhile_cons,show sgn s[k]=true from h,if_pos rfl,List.length_cons]
theorem runN_stop {s:ByteArray} {k:Nat} (hk:k < s.size) (h:Lx.signI (s[k].toNat:Int)=false):runN s k=0:=by
 unfold runN;rw [from_at hk,List.takeWhile_cons,show sgn s[k]=false from h]
 rfl
theorem runN_end {s:ByteArray} {k:Nat} (hk:s.size<=k):runN s k=0:=by
 unfold runN;rw [from_end hk]
 rfl
theorem runN_le (s:ByteArray) (k:Nat):runN s k<=s.size - k:=by
 unfold runN;rw [← from_len];exact(List.takeWhile_prefix _).length_le
theorem num_parts {s:ByteArray} (h:isNum (Lx.bs s)=true):(∀ k (hk:k < s.size),Lx.digitI (s[k].toNat:Int)=true)/\(s.toList.isEmpty=false)/\0 < s.size/\((s.toList == [48])=false->∀ h:0 < s.size,((s[0].toNat:Int) == 48)=false):=by
 obtain ⟨h1,h2,h3⟩:=isNum_iff.1 h;have hz:0 < s.size:=by rw [← Lx.bs_length];exact List.length_pos_iff.2 h1
 refine⟨fun k hk=>?_,?_,hz,fun h4 h5=>?_⟩
 ·have:=h3 _ (Lx.bs_mem hk);unfold isDig at this;exact this
 ·rw [Lx.bs_toList]
  cases hb:Lx.bs s with
  | nil=>exact absurd hb h1
  | cons a b=>rfl
 ·rw [Lx.bs_toList] at h4;have h6:Lx.bs s=s[0] :: from_ s 1:=by have:=from_at hz;unfold from_ at this;rw [List.drop_zero] at this;exact this
  rw [beq_eq_false_iff_ne];intro h7;have h8:s[0]=48:=by apply UInt8.toNat_inj.1;show s[0].toNat=48;omega
  by_cases h9:1 < (Lx.bs s).length
  ·have:=h2 h9;rw [h6] at this;simp at this;exact this h8
  ·have h10:(from_ s 1)=[]:=by rw [← List.length_eq_zero_iff];rw [h6,List.length_cons] at h9;omega
   rw [h6,h10,h8] at h4;simp at h4
theorem extract_from (s:ByteArray) (i j:Nat):s.extract i j=⟨((from_ s i).take (j - i)).toArray⟩:=by
 apply Lx.bs_inj.1
 rw [Lx.bs_mk];unfold Lx.bs from_ Lx.bs;simp
theorem take_run (s:ByteArray) (j:Nat):(from_ s j).takeWhile sgn=(from_ s j).take (runN s j):=List.prefix_iff_eq_take.1 (List.takeWhile_prefix _)
theorem extract_run (s:ByteArray) (j:Nat):s.extract j (j+runN s j)=⟨((from_ s j).takeWhile sgn).toArray⟩:=by
 rw [extract_from,take_run,show j+runN s j - j=runN s j by omega]
theorem at_run {s:ByteArray} {j:Nat} (hj:j<=s.size):at_ s ((from_ s j).dropWhile sgn)=j+runN s j:=by
 have h:=congrArg List.length (List.takeWhile_append_dropWhile (p:=sgn) (l:=from_ s j));rw [List.length_append,from_len] at h;unfold at_;have h2:=runN_le s j;unfold runN at *
 omega
def TokPost (w:World) (k:Int) (t:List UInt8) (a b:Nat) (e:Ending) (w':World):Prop :=
 e=.returned (.tuple #[.agg #[.int .i8 k,.string ⟨t.toArray⟩,.int .i64 a,.int .i64 b],.bool true,.int .i64 0])/\Below w.heap.size w w'
theorem skip_none:∀ {l:List UInt8},Lib.indexByte l 10=-1->skipL true l=[]
 | [],_=>rfl
 | c :: r,h=>by
  unfold Lib.indexByte at h;have hge:=Lib.indexByte_ge r 10
  by_cases hc:(c == 10)=true
  ·rw [if_pos hc] at h;cases h
  ·rw [if_neg hc] at h;have h1:¬ (c.toNat:Int)=10:=fun e=>hc (by rw [beq_iff_eq];apply UInt8.toNat_inj.1;show c.toNat=10;omega);rw [skipL,if_neg h1];refine skip_none ?_
   by_cases h2:(Lib.indexByte r 10 == -1)=true
   ·simpa using h2
   ·rw [if_neg h2] at h;omega
theorem skip_some:∀ {l:List UInt8} {o:Nat},Lib.indexByte l 10=o->skipL true l=skipL false (l.drop (o+1))
 | [],o,h=>by simp [Lib.indexByte] at h
 | c :: r,o,h=>by
  unfold Lib.indexByte at h;have hge:=Lib.indexByte_ge r 10
  by_cases hc:(c == 10)=true
  ·rw [if_pos hc] at h;obtain rfl:o=0:=by omega
   have h1:(c.toNat:Int)=10:=by rw [beq_iff_eq] at hc;subst hc;rfl
   rw [skipL,if_pos h1];rfl
  ·rw [if_neg hc] at h;have h1:¬ (c.toNat:Int)=10:=fun e=>hc (by rw [beq_iff_eq];apply UInt8.toNat_inj.1;show c.toNat=10;omega)
   by_cases h2:(Lib.indexByte r 10 == -1)=true
   ·rw [if_pos h2] at h;omega
   ·rw [if_neg h2] at h
    obtain ⟨o',rfl⟩:∃ o',o=o'+1:=⟨o - 1,by
     have h3:¬ Lib.indexByte r 10=-1:=by simpa using h2
     omega⟩
    rw [skipL,if_neg h1,skip_some (o:=o') (by omega)]
    rfl
theorem quoted_index:∀ {l n t:List UInt8},quotedL l=some (n,t)->Lib.indexByte l 124=n.length/\l.take n.length=n/\l.drop (n.length+1)=t/\n.length < l.length/\(n.all fun c=>Lx.insideI c.toNat)=true:=by
 intro l n t h;obtain ⟨rfl,hall⟩:=quotedL_split h;refine⟨?_,by simp,?_,by simp,hall⟩
 ·clear h
  induction n with
  | nil=>simp [Lib.indexByte]
  | cons c n ih =>
   rw [List.all_cons,Bool.and_eq_true] at hall
   have hc:¬ (c == 124)=true:=by
    intro e;rw [beq_iff_eq] at e;subst e;exact absurd hall.1 (by decide)
   rw [List.cons_append];unfold Lib.indexByte;rw [if_neg hc,ih hall.2,if_neg (by rw [beq_iff_eq];omega)];simp
 ·rw [show n.length+1=(n ++ [124]).length by simp,show n ++ 124 :: t=(n ++ [124]) ++ t by simp,List.drop_left]
theorem drop_from (s:ByteArray) (p:Nat):(s.extract p s.size).data.toList=from_ s p:=by
 have h:=extract_from s p s.size;rw [h];show(List.take (s.size - p) (from_ s p))=_;exact List.take_of_length_le (by rw [from_len];exact nlq)
abbrev SxB:=Sexp × Option Addr × Nat
def sxV (y:SxB):List Value:=[.int .i8 y.1.kind,.string y.1.text,.slice y.2.1 y.1.l.length y.2.2]
def sxOk (w:World) (y:SxB):Prop:=SexpR w (sxV y) y.1
theorem sxV_len (y:SxB):(sxV y).length=3:=rfl
theorem Rd.shorter {l r:List UInt8} {x:Sexp} (h:Rd l x r):r.length < l.length:=by
 have hsk:∀ {l:List UInt8} {k:Int} {t r:List UInt8},nextL (skipL false l)=.tok k t r->r.length < l.length:=fun {l k t r} h=>by
  have h1:=(nextL_suffix h).2;have h2:=(skipL_suffix false l).length_le
  omega
 induction h with
 | name h hs=>exact hsk h
 | num h hs=>exact hsk h
 | key h hs=>exact hsk h
 | @list l r rest xs f h h0 hc hx hn ih =>
  have hstep:∀ k,k<=xs.length->(f k).length<=r.length:=by
   intro k
   induction k with
   | zero=>intro _;rw [h0];exact nlq
   | succ k ihk=>intro hk;have h1:=ih k xs[k] (gqe (by omega));have h2:=ihk (by omega);omega
  have h1:=hsk h;have h2:=hsk hn;have h3:=hstep xs.length nlq
  omega
def ReadPost (w:World) (x:Sexp) (b:Nat) (e:Ending) (w':World):Prop :=
 ∃ A c,e=.returned (.tuple #[.agg #[.int .i8 x.kind,.string x.text,.slice A x.l.length c],.int .i64 b,.int .i64 0])/\InOk sxOk w.heap.size w'.heap.size w' (x,A,c)/\Below w.heap.size w w'
def set3' (w:World) (b:Nat) (v0 v1 v2:Value):World:=((w.setCell ⟨b,0,none⟩ v0).setCell ⟨b,1,none⟩ v1).setCell ⟨b,2,none⟩ v2
theorem set3'_at {w:World} {b:Nat} {a0 a1 a2:Value} {t:TypeId} (h:w.heap[b]?=some (.cells #[a0,a1,a2] t (0,0))) (v0 v1 v2:Value):(set3' w b v0 v1 v2).heap[b]?=some (.cells #[v0,v1,v2] t (0,0)):=by
 simp [set3',World.setCell,Array.getElem?_modify,h]
theorem set3'_keeps {S:Nat->Prop} {w w':World} (h:Keeps S w w') {b:Nat} (hb:S b\/w.heap.size<=b) (v0 v1 v2:Value):Keeps S w (set3' w' b v0 v1 v2) :=
 ((h.setCell (p:=⟨b,0,none⟩) hb v0).setCell (p:=⟨b,1,none⟩) hb v1).setCell (p:=⟨b,2,none⟩) hb v2
theorem set3'_below {B b:Nat} {w0 w:World} (h:Below B w0 w) (hb:B<=b) (v0 v1 v2:Value):Below B w0 (set3' w b v0 v1 v2) :=
 ((h.setCell (p:=⟨b,0,none⟩) hb v0).setCell (p:=⟨b,1,none⟩) hb v1).setCell (p:=⟨b,2,none⟩) hb v2
theorem nextL_text {l:List UInt8} {k:Int} {t r:List UInt8} (h:nextL l=.tok k t r):t.length<=100:=by
 cases l with
 | nil=>unfold nextL at h;cases h
 | cons c l =>
  rw [nextL_cons] at h
  split at h
  ·simp only [Tk.tok.injEq] at h;obtain ⟨_,rfl,_⟩:=h;simp
  split at h
  ·simp only [Tk.tok.injEq] at h;obtain ⟨_,rfl,_⟩:=h;simp
  split at h
  ·split at h
   ·split at h
    ·rename_i h1
     simp only [Tk.tok.injEq] at h;obtain ⟨_,rfl,_⟩:=h;exact h1
    ·cases h
   ·cases h
  split at h
  ·split at h
   ·cases h
   ·simp only [Tk.tok.injEq] at h;obtain ⟨_,rfl,_⟩:=h;omega
  split at h
  ·cases h
  ·rename_i h1
   split at h
   ·split at h
    ·simp only [Tk.tok.injEq] at h;obtain ⟨_,rfl,_⟩:=h;omega
    ·cases h
   ·simp only [Tk.tok.injEq] at h;obtain ⟨_,rfl,_⟩:=h;omega
theorem Rd.next {l r:List UInt8} {x:Sexp} (h:Rd l x r):∃ k t q,nextL (skipL false l)=.tok k t q:=by
 cases h with
 | name h hs=>exact⟨_,_,_,h⟩
 | num h hs=>exact⟨_,_,_,h⟩
 | key h hs=>exact⟨_,_,_,h⟩
 | list f h h0 hc hx hn=>exact⟨_,_,_,h⟩
theorem shape_own {w:World} {base s n:Nat} {t:TypeId} {v:Value} {vals:List Value} (ho:w.ownsRow base t s v n vals):∃ A c,v=.slice A n c:=by
 rcases ho.2 with⟨h1,h2⟩ | ⟨g,cap,cur,h1,_⟩
 ·exact⟨none,0,by rw [h2];exact h1⟩
 ·exact⟨_,cap,h1⟩
end Dt
namespace Bn
open Go Go.RowKit Dt
inductive RdAll:List UInt8->List Sexp->List UInt8->Prop
 | nil {l rest:List UInt8} (h:nextL (skipL false l)=.tok 1 [] rest):RdAll l [] rest
 | cons {l m rest:List UInt8} {x:Sexp} {xs:List Sexp} (hc:∀ t q,nextL (skipL false l)≠.tok 1 t q) (hx:Rd l x m) (hr:RdAll m xs rest):RdAll l (x :: xs) rest
theorem RdAll.places {l rest:List UInt8} {xs:List Sexp} (h:RdAll l xs rest):∃ f:Nat->List UInt8,f 0=l/\(∀ i,i < xs.length->∀ t q,nextL (skipL false (f i))≠.tok 1 t q)/\(∀ i x,xs[i]?=some x->Rd (f i) x (f (i+1)))/\nextL (skipL false (f xs.length))=.tok 1 [] rest:=by
 induction h with
 | @nil l rest h=>exact⟨fun _=>l,rfl,fun i hi=>by simp at hi,fun i x hx=>by simp at hx,h⟩
 | @cons l m rest x xs hc hx hr ih =>
  obtain ⟨f,h0,h1,h2,h3⟩:=ih;refine⟨fun i=>match i with | 0=>l | j+1=>f j,rfl,fun i hi=>?_,fun i y hy=>?_,h3⟩
  ·cases i with
   | zero=>exact hc
   | succ j=>exact h1 j (by simp at hi;omega)
  ·cases i with
   | zero =>
    obtain rfl:x=y:=by simpa using hy
    show Rd l x (f 0);rw [h0];exact hx
   | succ j=>exact h2 j y (by simpa using hy)
theorem rd_of_all {l r rest:List UInt8} {xs:List Sexp} (h:nextL (skipL false l)=.tok 0 [] r) (ha:RdAll r xs rest):Rd l (.mk 3 { data:=#[] } xs) rest:=by
 obtain ⟨f,h0,h1,h2,h3⟩:=ha.places;exact .list f h h0 h1 h2 h3
theorem not_close {l:List UInt8} {k:Int} {t r:List UInt8} (h:nextL (skipL false l)=.tok k t r) (hk:k≠1):∀ t q,nextL (skipL false l)≠.tok 1 t q:=by
 intro t q e;rw [h] at e;simp only [Tk.tok.injEq] at e;exact hk e.1
theorem RdAll.sym {l t r rest:List UInt8} {s:ByteArray} {xs:List Sexp} (h:nextL (skipL false l)=.tok 2 t r) (hs:Lx.bs s=t) (hr:RdAll r xs rest):RdAll l (symX s :: xs) rest:=.cons (not_close h (by decide)) (.name h hs) hr
def nameL (l:List UInt8):List UInt8:=Lib.trimS (Lib.trimPrefix (Lib.trimSuffix l [10]) [61,61,32]) [32,9,13]
def two:List UInt8:=[120,10,61,61,32,97,32,10,40,112,117,115,104,32,49,41,10,59,61,32,115,117,99,99,101,115,115,10,40,112,111,112,32,50,41,10,59,126,32,40,101,114,114,111,114,10,61,61,32,32,98,10,40,112,111,112,32,49,41,10,59,61,32,115,117,99,99,101,115,115]
def tA:List UInt8:=[40,112,117,115,104,32,49,41,10,59,61,32,115,117,99,99,101,115,115,10,40,112,111,112,32,50,41,10,59,126,32,40,101,114,114,111,114,10]
def tB:List UInt8:=[40,112,111,112,32,49,41,10,59,61,32,115,117,99,99,101,115,115]
theorem two_problems:problemsL nameL two=[([97],tA),([98],tB)]:=by kernel_rfl
def bA:ByteArray:=⟨tA.toArray⟩
def bB:ByteArray:=⟨tB.toArray⟩
theorem rdA1:Rd (from_ bA 0) (.mk 3 { data:=#[] } [symX sPush,.mk 1 { data:=#[49] } []]) [10,59,61,32,115,117,99,99,101,115,115,10,40,112,111,112,32,50,41,10,59,126,32,40,101,114,114,111,114,10]:=by
 refine rd_of_all (r:=[112,117,115,104,32,49,41,10,59,61,32,115,117,99,99,101,115,115,10,40,112,111,112,32,50,41,10,59,126,32,40,101,114,114,111,114,10]) (by kernel_rfl) ?_;refine RdAll.sym (t:=[112,117,115,104]) (r:=[32,49,41,10,59,61,32,115,117,99,99,101,115,115,10,40,112,111,112,32,50,41,10,59,126,32,40,101,114,114,111,114,10]) (by kernel_rfl) (by kernel_rfl) ?_;refine .cons (m:=[41,10,59,61,32,115,117,99,99,101,115,115,10,40,112,111,112,32,50,41,10,59,126,32,40,101,114,114,111,114,10]) (not_close (k:=3) (t:=[49]) (r:=[41,10,59,61,32,115,117,99,99,101,115,115,10,40,112,111,112,32,50,41,10,59,126,32,40,101,114,114,111,114,10]) (by kernel_rfl) (by decide)) (.num (t:=[49]) (by kernel_rfl) (by kernel_rfl)) ?_;exact .nil (by kernel_rfl)
theorem rdA2:Rd (from_ bA 8) (.mk 3 { data:=#[] } [symX sPop,.mk 1 { data:=#[50] } []]) [10,59,126,32,40,101,114,114,111,114,10]:=by
 refine rd_of_all (r:=[112,111,112,32,50,41,10,59,126,32,40,101,114,114,111,114,10]) (by kernel_rfl) ?_;refine RdAll.sym (t:=[112,111,112]) (r:=[32,50,41,10,59,126,32,40,101,114,114,111,114,10]) (by kernel_rfl) (by kernel_rfl) ?_;refine .cons (m:=[41,10,59,126,32,40,101,114,114,111,114,10]) (not_close (k:=3) (t:=[50]) (r:=[41,10,59,126,32,40,101,114,114,111,114,10]) (by kernel_rfl) (by decide)) (.num (t:=[50]) (by kernel_rfl) (by kernel_rfl)) ?_;exact .nil (by kernel_rfl)
theorem rdB1:Rd (from_ bB 0) (.mk 3 { data:=#[] } [symX sPop,.mk 1 { data:=#[49] } []]) [10,59,61,32,115,117,99,99,101,115,115]:=by
 refine rd_of_all (r:=[112,111,112,32,49,41,10,59,61,32,115,117,99,99,101,115,115]) (by kernel_rfl) ?_;refine RdAll.sym (t:=[112,111,112]) (r:=[32,49,41,10,59,61,32,115,117,99,99,101,115,115]) (by kernel_rfl) (by kernel_rfl) ?_;refine .cons (m:=[41,10,59,61,32,115,117,99,99,101,115,115]) (not_close (k:=3) (t:=[49]) (r:=[41,10,59,61,32,115,117,99,99,101,115,115]) (by kernel_rfl) (by decide)) (.num (t:=[49]) (by kernel_rfl) (by kernel_rfl)) ?_;exact .nil (by kernel_rfl)
def s1:ByteArray:={ data:=#[49] }
def s2:ByteArray:={ data:=#[50] }
def xPush:Sexp:=.mk 3 { data:=#[] } [symX sPush,.mk 1 s1 []]
def xPop2:Sexp:=.mk 3 { data:=#[] } [symX sPop,.mk 1 s2 []]
def xPop1:Sexp:=.mk 3 { data:=#[] } [symX sPop,.mk 1 s1 []]
theorem cmd_push:cmdO xPush=some ⟨6,noS,1,[],[],[],noS,[]⟩:=by kernel_rfl
theorem cmd_pop2:cmdO xPop2=some ⟨7,noS,2,[],[],[],noS,[]⟩:=by kernel_rfl
theorem cmd_pop1:cmdO xPop1=some ⟨7,noS,1,[],[],[],noS,[]⟩:=by kernel_rfl
abbrev Ex:=Int × Nat × List UInt8
def mark (k:Nat):List UInt8:=if k=0 then [59,61,32] else if k=1 then [59,33,32] else [59,126,32]
def wordsL (k:Nat) (l:List UInt8):List UInt8:=Lib.trimRightB (Lib.trimSuffix (Lib.trimPrefix l (mark k)) [10]) 13
def exL (n:Nat) (l:List UInt8):List Ex:=((List.range 3).filter fun k=>Lib.hasPrefix l (mark k)).map fun(k:Nat)=>(Int.ofNat k,n,wordsL k l)
def expectsF (ahead:Nat->Nat):Nat->List (List UInt8)->List Ex
 | _,[]=>[]
 | at',l :: r=>exL (ahead at') l ++ expectsF ahead (at'+l.length) r
def expectsL (ahead:Nat->Nat) (t:List UInt8):List Ex:=expectsF ahead 0 (linesT t)
def metP (x:Ex) (l:List (List UInt8)):Bool:=match x.2.1 with
 | 0=>false
 | n+1=>match l[n]? with
  | none=>false
  | some s=>if x.1=0 then s == x.2.2 else if x.1=1 then !(s == x.2.2) else if x.1=2 then Lib.hasPrefix s x.2.2 else false
theorem two_expects:expectsL (fun p=>if p < 8 then 0 else if p < 27 then 1 else 2) tA=[(0,1,[115,117,99,99,101,115,115]),(2,2,[40,101,114,114,111,114])]:=by kernel_rfl
theorem b_expects:expectsL (fun p=>if p < 7 then 0 else 1) tB=[(0,1,[115,117,99,99,101,115,115])]:=by kernel_rfl
end Bn
namespace Bn
open Go
theorem quote_50 (T:Lib.PrintTabs):strOfNums (Lib.quoteZ T ⟨#[53,48]⟩)=⟨#[34,53,48,34]⟩:=by kernel_rfl
theorem digits_50:Lib.decDigits 50=[53,48]:=by kernel_rfl
def err50:List UInt8:=[40,101,114,114,111,114,32,34,53,48,34,41]
def metI (k n:Int) (t:List UInt8) (rs:List (List UInt8)):Bool:=if 1<=n/\n<=rs.length then metP (k,n.toNat,t) rs else false
theorem metI_at {k n:Int} {t s:List UInt8} {rs:List (List UInt8)} (h1:1<=n) (h2:n<=rs.length) (hs:rs[(n - 1).toNat]?=some s):metI k n t rs=if k=0 then s == t else if k=1 then !(s == t) else if k=2 then Lib.hasPrefix s t else false:=by
 unfold metI;rw [if_pos ⟨h1,h2⟩];obtain ⟨m,hm⟩:∃ m:Nat,n.toNat=m+1:=⟨n.toNat - 1,by omega⟩;have h3:(n - 1).toNat=m:=by omega
 rw [h3] at hs;unfold metP;simp only [hm,hs]
theorem metI_out {k n:Int} {t:List UInt8} {rs:List (List UInt8)} (h:¬ (1<=n/\n<=rs.length)):metI k n t rs=false:=by unfold metI;rw [if_neg h]
theorem metI_not (n:Int) (t:List UInt8) (rs:List (List UInt8)):(metI 0 n t rs != metI 1 n t rs)=decide (1<=n/\n<=rs.length):=by
 by_cases h:1<=n/\n<=rs.length
 ·have hlt:(n - 1).toNat < rs.length:=by omega
  rw [metI_at h.1 h.2 (gqe hlt),metI_at h.1 h.2 (gqe hlt)];rw [if_pos rfl,if_neg (by decide),if_pos rfl,decide_eq_true h]
  cases (rs[(n - 1).toNat] == t) <;> rfl
 ·rw [metI_out h,metI_out h,dfq h]
  rfl
end Bn
namespace Bn
open Go Go.RowKit Dt
theorem bytes_eqB' (a b:ByteArray):(a.toList == b.toList)=(Lx.bs a == Lx.bs b):=by rw [Lx.bs_toList,Lx.bs_toList]
theorem row_at {w:World} {A:Option Addr} {l:List ByteArray} (h:Lies 1 StrR w A l) {k:Nat} (hk:k < l.length):∃ b o,A=some ⟨b,o,none⟩/\w.cell? ⟨b,o+k,none⟩=some (.string l[k])/\(l[k].size:Int)<=140737488351232:=by
 obtain ⟨b,o,vs,hA,_,_,hc,hr⟩:=h.at' (gqe hk);obtain ⟨rfl,hs⟩:=hr;refine⟨b,o,hA,?_,hs⟩;have:=hc 0 _ rfl
 rwa [Nat.mul_one,Nat.add_zero] at this
def wayC:Array Value:=#[.string ⟨#[59,61,32]⟩,.func (.func 24) #[] #[],.string ⟨#[59,33,32]⟩,.func (.func 25) #[] #[],.string ⟨#[59,126,32]⟩,.func (.func 26) #[] #[]]
theorem ways_any (w:World):Calls Tryz.prog 10 #[] w fun e w'=>e=.returned (.slice (some ⟨w.heap.size,0,none⟩) 3 3)/\w'=w.alloc (.cells wayC 41):=by
 go_enter Tryz.func10,Tryz.ntmps10
 go_wp2_with fail
 go_ret;exact⟨rfl,rfl⟩
theorem is_any (a b:ByteArray) (w:World):Calls Tryz.prog 24 #[.string a,.string b] w fun e w'=>e=.returned (.bool (Lx.bs a == Lx.bs b))/\w'=w:=by
 go_enter Tryz.func24,Tryz.ntmps24
 go_wp2_with fail
 go_ret;exact⟨ret_bool (bytes_eqB' a b),rfl⟩
theorem not_any (a b:ByteArray) (w:World):Calls Tryz.prog 25 #[.string a,.string b] w fun e w'=>e=.returned (.bool (!(Lx.bs a == Lx.bs b)))/\w'=w:=by
 go_enter Tryz.func25,Tryz.ntmps25
 go_wp2_with fail
 go_ret;exact⟨ret_bool (by rw [← bytes_eqB' a b]),rfl⟩
def ansV (n:Int) (rs:List ByteArray):Array Value:=if 1<=n/\n<=rs.length then #[.string (rs.getD (n - 1).toNat { data:=#[] }),.bool true] else #[.string { data:=#[] },.bool false]
theorem answer_any (n:Int) (hn:I64 n) (rs:List ByteArray) (A:Option Addr) (c:Nat) (w:World) (h:Lies 1 StrR w A rs) (_:(rs.length:Int)<=1000000000000) :
  Calls Tryz.prog 11 #[.int .i64 n,.slice A rs.length c] w fun e w'=>e=.returned (.tuple (ansV n rs))/\w'=w:=by
 obtain ⟨hn1,hn2⟩:=hn
 by_cases h1:n < 1
 ·go_enter Tryz.func11,Tryz.ntmps11
  go_wp2_with fail
  refine bodyPost_ret (results_tmp2 rfl _ _ _) rfl ?_;exact⟨by unfold ansV;rw [if_neg (by omega)];rfl,rfl⟩
 by_cases h2:(rs.length:Int) < n
 ·go_enter Tryz.func11,Tryz.ntmps11
  go_wp2_with fail
  refine bodyPost_ret (results_tmp2 rfl _ _ _) rfl ?_;exact⟨by unfold ansV;rw [if_neg (by omega)];rfl,rfl⟩
 obtain ⟨m,rfl⟩:∃ m:Nat,n=(m:Int)+1:=⟨(n - 1).toNat,by omega⟩;have hm:m < rs.length:=by omega
 obtain ⟨b,o,rfl,hc,_⟩:=row_at h hm
 have hv:ansV ((m:Int)+1) rs=#[.string rs[m],.bool true]:=by
  unfold ansV;rw [if_pos (by omega),show((m:Int)+1 - 1).toNat=m by omega,List.getD_eq_getElem?_getD,gqe hm]
  rfl
 generalize rs[m]=s at *;clear h
 go_enter Tryz.func11,Tryz.ntmps11
 go_wp2_with fail
 refine bodyPost_ret (results_tmp2 rfl _ _ _) rfl ?_
 first
 | exact⟨rfl,rfl⟩
 | exact⟨by rw [hv];rfl,rfl⟩
theorem quiet_same {P:Program} {f:FuncId} {args:Array Value} {w:World} {n:Nat} {v:Value} (h:Calls P f args (w.drewN n) fun e w'=>e=.returned v/\w'=w.drewN n):Calls P f args (w.drewN n) fun e w''=>e=.returned v/\∃ m,w''=w.drewN m :=
 h.mono fun _ _ ⟨he,hm⟩=>⟨he,n,hm⟩
theorem ansV_no {n:Int} {rs:List ByteArray} (h:¬ (1<=n/\n<=rs.length)):ansV n rs=#[.string { data:=#[] },.bool false]:=by unfold ansV;rw [if_neg h]
theorem ansV_yes {n:Int} {rs:List ByteArray} (h:1<=n/\n<=rs.length):∃ r,rs[(n - 1).toNat]?=some r/\ansV n rs=#[.string r,.bool true]:=by
 have hl:(n - 1).toNat < rs.length:=by omega
 refine⟨rs[(n - 1).toNat],gqe hl,?_⟩;unfold ansV;rw [if_pos h,List.getD_eq_getElem?_getD,gqe hl]
 rfl
theorem met_any (k n:Int) (hk:-128<=k/\k<=127) (hn:I64 n) (t:ByteArray) (rs:List ByteArray) (A:Option Addr) (c:Nat) (w:World) (h:Lies 1 StrR w A rs) (hl:(rs.length:Int)<=1000000000000) :
  Calls Tryz.prog 5 #[.agg #[.int .i8 k,.int .i64 n,.string t],.slice A rs.length c] w fun e w'=>e=.returned (.bool (metI k n (Lx.bs t) (rs.map Lx.bs)))/\Below w.heap.size w w':=by
 have B1:=kp ((brq w).alloc nlq (.cells #[.int .i8 k,.int .i64 n,.string t] 24));have X1:=kp (Bk.new w (.cells #[.int .i8 k,.int .i64 n,.string t] 24));have R1:=kp (h.on StrR.lasts B1.out);have B2:=kp (B1.out.alloc (by simp) (.cells wayC 41));have X2:=kp (Bk.keep X1.out (.cells wayC 41));have R2:=kp (R1.out.on StrR.lasts ((Below.refl _ _).alloc nlq (.cells wayC 41)));have Y2:=kp (Bk.new (w.alloc (.cells #[.int .i8 k,.int .i64 n,.string t] 24)) (.cells wayC 41));clear h
 go_enter Tryz.func5,Tryz.ntmps5
 go_upto_region 1 with fail
 generalize w.alloc (.cells #[.int .i8 k,.int .i64 n,.string t] 24)=w1 at *;go_wp2_with fail
 refine(ways_any w1).mono ?_;rintro e w2' ⟨rfl,rfl⟩;generalize w1.alloc (.cells wayC 41)=w2 at *;obtain ⟨k0,n0,t0,f0⟩:=Bk.c3 X2.out;go_wp2_with fail
 refine(answer_any n hn rs A c w2 R2.out hl).mono ?_;rintro e w3 ⟨rfl,rfl⟩;unfold wayC at Y2;obtain ⟨a0,a1,a2,a3,a4,a5,fa⟩:=Bk.c6 Y2.out
 by_cases hin:1<=n/\n<=rs.length
 ·obtain ⟨r,hr,hv⟩:=ansV_yes hin;rw [hv];have hr2:(rs.map Lx.bs)[(n - 1).toNat]?=some (Lx.bs r):=by rw [List.getElem?_map,hr];rfl
  have HM:=kp (metI_at (k:=k) (t:=Lx.bs t) hin.1 (by rw [List.length_map];exact hin.2) hr2);clear hr hr2 hv hin hl R2 R1 B1 X1
  by_cases c0:k < 0
  ·have HV:=kp (HM.out.trans (by rw [if_neg (by omega),if_neg (by omega),if_neg (by omega)]));have hc:decide (0<=k)=false:=dfq (by omega);go_wp2_with fail
   go_quiet (fail)
   go_wp2_with fail
   go_ret;exact⟨ret_bool HV.out.symm,below_drewN B2.out _⟩
  by_cases c3:3<=k
  ·have HV:=kp (HM.out.trans (by rw [if_neg (by omega),if_neg (by omega),if_neg (by omega)]));have hc:decide (0<=k)=true:=decide_eq_true (by omega);have hc:decide (k < 3)=false:=dfq (by omega);have hw:IntKind.i64.wrap k=k:=IntWalk.i64_in _ (by omega);go_wp2_with fail
   go_quiet (fail)
   go_wp2_with fail
   go_ret;exact⟨ret_bool HV.out.symm,below_drewN B2.out _⟩
  obtain rfl | rfl | rfl:k=0\/k=1\/k=2:=by omega
  ·have HV:=kp (HM.out.trans (if_pos rfl));go_wp2_with fail
   go_quiet ((go_at_call 24;exact quiet_same (is_any _ _ _)))
   go_wp2_with fail
   go_ret;exact⟨ret_bool HV.out.symm,below_drewN B2.out _⟩
  ·have HV:=kp (HM.out.trans ((if_neg (by decide)).trans (if_pos rfl)));go_wp2_with fail
   go_quiet ((go_at_call 25;exact quiet_same (not_any _ _ _)))
   go_wp2_with fail
   go_ret;exact⟨ret_bool HV.out.symm,below_drewN B2.out _⟩
  ·have HV:=kp (HM.out.trans ((if_neg (by decide)).trans ((if_neg (by decide)).trans (if_pos rfl))));have HP:=kp (fun W=>(Tryz.strings_HasPrefix r t W).mono (R':=fun e w'=>e=.returned (.bool (Lib.hasPrefix (Lx.bs r) (Lx.bs t)))/\w'=W) (fun e w' h=>h));go_wp2_with fail
   go_quiet ((go_at_call 26;exact quiet_same (HP.out _)))
   go_wp2_with fail
   go_ret;exact⟨ret_bool HV.out.symm,below_drewN B2.out _⟩
 ·rw [ansV_no hin];have HM:=kp (metI_out (k:=k) (t:=Lx.bs t) (show ¬ (1<=n/\n<=(rs.map Lx.bs).length) by rw [List.length_map];exact hin));go_wp2_with fail
  go_quiet (fail)
  go_wp2_with fail
  go_ret;exact⟨ret_bool HM.out.symm,below_drewN B2.out _⟩
end Bn
namespace Dt
open Go.RowKit
theorem max_if (a b:Int):(if a < b then b else a)=max a b:=by split <;> omega
theorem sexp_cells {w:World} {A:Option Addr} {l:List Sexp} (h:Lies 3 SexpR w A l) {k:Nat} {y:Sexp} (hy:l[k]?=some y) :
  ∃ b o A' c',A=some ⟨b,o,none⟩/\b < w.heap.size/\w.cell? ⟨b,o+k * 3,none⟩=some (.int .i8 y.kind)/\w.cell? ⟨b,o+k * 3+1,none⟩=some (.string y.text)/\w.cell? ⟨b,o+k * 3+2,none⟩=some (.slice A' y.l.length c') /\
   SexpR w [.int .i8 y.kind,.string y.text,.slice A' y.l.length c'] y:=by
 obtain ⟨b,o,vs,hA,hb,_,hc,hr⟩:=h.at' hy;obtain ⟨A',c',e,_⟩:=hr.open';subst e;exact⟨b,o,A',c',hA,hb,hc 0 _ rfl,hc 1 _ rfl,hc 2 _ rfl,hr⟩
theorem depth_any:∀ (n:Nat) (x:Sexp),SizeOf.sizeOf x < n->∀ (w:World) (A:Option Addr) (c:Nat),SexpR w [.int .i8 x.kind,.string x.text,.slice A x.l.length c] x ->
  Calls Tryz.prog 63 #[.agg #[.int .i8 x.kind,.string x.text,.slice A x.l.length c]] w fun e w'=>e=.returned (.int .i64 x.depth)/\Below w.heap.size w w':=by
 intro n
 induction n with
 | zero=>intro x hx;omega
 | succ n ih =>
  intro x hx w A c hr;have IH:=kp ih;obtain ⟨A0,c0,e0,hl,hc,hcm,_,hlb,_⟩:=hr.open';simp only [List.cons.injEq,Value.slice.injEq,and_true,true_and] at e0;obtain ⟨rfl,rfl⟩:=e0;have HE:=kp (Sexp.depth_eq x)
  by_cases hk:x.kind=3
  ·replace HE:=kp (HE.out.trans (if_pos hk));have HL:=kp hl;have HX:=kp hx;have HM:=kp (fun y (hy:y ∈ x.l)=>Sexp.mem_lt hy);rw [hk];generalize x.l=l at *;generalize x.text=t at *;generalize x.depth=d at *;clear hl hr hk hx ih
   go_enter Tryz.func63,Tryz.ntmps63
   go_wp2_with fail
   have B0:=kp ((brq w).alloc nlq (.cells #[.int .i8 3,.string t,.slice A l.length c] 81));generalize w.alloc (.cells #[.int .i8 3,.string t,.slice A l.length c] 81)=w0 at *
   go_loopw [3,12] (fun v i wr=>∃ k:Nat,k<=l.length/\i=.int .i64 k/\v=.int .i64 (Sexp.depthL (l.take k))/\Below w.heap.size w wr) (fun _ i _=>l.length - (intOf i).toNat)
   case atStart=>exact⟨0,Nat.zero_le _,rfl,rfl,B0.out⟩
   case round =>
    obtain ⟨k,hk,rfl,rfl,hb⟩:=hrel;have HB:=kp hb;obtain ⟨d0,d1⟩:=Sexp.depthL_I64 (l.take k)
    by_cases hlt:k < l.length
    ·have hlt2:(k:Int) < (l.length:Int):=by omega
     have hy:=gqe hlt;have hym:=List.getElem_mem hlt;generalize l[k]=y at hy hym;obtain ⟨b,o,A',c',rfl,hbl,e0,e1,e2,hr⟩:=sexp_cells (HL.out.on SexpR.lasts hb) hy;have HY:=kp (fun W (hW:Below wr.heap.size wr W)=>IH.out y (by have h1:=HM.out y hym;have h2:=HX.out;omega) W A' c' (SexpR.lasts _ _ _ _ hW hr));have HT:=kp (show Sexp.depthL (l.take (k+1))=max (Sexp.depthL (l.take k)) y.depth by rw [List.take_add_one,hy];exact Sexp.depthL_snoc _ _);obtain ⟨f0,f1⟩:=Sexp.depth_I64 y;generalize Sexp.depthL (l.take k)=dl at *;clear hb hr hy hym;go_wp2_with fail
     refine(HY.out _ ((Below.refl _ _).alloc nlq _)).mono ?_;rintro e w2 ⟨rfl,hb2⟩;have HB2:=kp ((HB.out.alloc HB.out.size _).trans (hb2.mono (by have:=HB.out.size;simp;omega)));clear hb2;go_wp2_with fail
     go_roundw
     case rel=>exact⟨k+1,by omega,by go_num,by first | rw [HT.out,max_if] | rw [HT.out],HB2.out⟩
     case measure=>simp [intOf];omega
    ·obtain rfl:k=l.length:=by omega
     rw [List.take_length] at d0 d1 ⊢;go_wp2_with fail
     go_ret;exact⟨ret_int HE.out.symm,HB.out⟩
  ·replace HE:=kp (HE.out.trans (if_neg hk));have hk2:(x.kind == 3)=false:=beq_eq_false_iff_ne.2 hk
   go_enter Tryz.func63,Tryz.ntmps63
   go_wp2_with fail
   go_ret;exact⟨ret_int HE.out.symm,(brq w).alloc nlq _⟩
theorem box_cells (w:World) (a b c:Value) (t:TypeId):(w.alloc (.cells #[a,b,c] t)).cell? ⟨w.heap.size,0,none⟩=some a/\(w.alloc (.cells #[a,b,c] t)).cell? ⟨w.heap.size,1,none⟩=some b/\(w.alloc (.cells #[a,b,c] t)).cell? ⟨w.heap.size,2,none⟩=some c/\(w.alloc (.cells #[a,b,c] t)).heap.size=w.heap.size+1:=by
 refine⟨?_,?_,?_,by simp⟩ <;> rw [World.cell?_alloc_mark] <;> rfl
end Dt
namespace Bd
open Go Go.RowKit Dt
theorem bld_size:(Tryz.prog.info? 52).map (fun i=>i.size)=some 2:=by kernel_rfl
theorem bld_lies:liesAt Tryz.prog Tryz.prog.depth 52 (2 / Tryz.prog.cellsOf 52) 0 52 1=true:=by kernel_rfl
def WB (B b:Nat) (l:List UInt8) (w:World):Prop:=Lib.IsBuilder 52 5 B b (Lib.byteCells l) w
theorem copy_used (b:Nat) (w:World) (h0:w.cell? ⟨b,0,none⟩=some (.pointer (some ⟨b,0,none⟩))) :
  Calls Tryz.prog 40 #[.pointer (some ⟨b,0,none⟩)] w fun e w'=>e=.returned (.tuple #[])/\w'=w:=by
 obtain ⟨j,hj,_⟩:=Option.map_eq_some_iff.1 bld_size
 go_enter Tryz.func40,Tryz.ntmps40
 go_wp2_with fail
 rw [Lib.run_neq_ptr_same w _ Tryz.underlying49 hj];go_wp2_with fail
 go_end0
 exact⟨rfl,rfl⟩
theorem copy_fresh (b:Nat) (w:World) (h0:w.cell? ⟨b,0,none⟩=some (.pointer none)) (hsh:w.shape? b=some (52,2)) (hfz:w.frozen? ⟨b,0,none⟩=false) :
  Calls Tryz.prog 40 #[.pointer (some ⟨b,0,none⟩)] w fun e w'=>e=.returned (.tuple #[])/\w'=w.setCell ⟨b,0,none⟩ (.pointer (some ⟨b,0,none⟩)):=by
 obtain ⟨j,hj,hjs⟩:=Option.map_eq_some_iff.1 bld_size
 go_enter Tryz.func40,Tryz.ntmps40
 go_wp2_with fail
 rw [Lib.run_to_unsafe w ⟨b,0,none⟩ Tryz.underlying49 Tryz.underlying116 hj (by rw [hjs];decide) hsh (Nat.zero_lt_succ 1)];simp only [Result.andThen];rw [Oper.upon_value];go_wp2_with fail
 rw [run_callFunc_extern Tryz.func57 (by kernel_rfl) (by kernel_rfl) (by kernel_rfl) (e:=Extern.AbiNoEscape.same) (by kernel_rfl)];rw [Lib.run_noEscape];simp only [Result.andThen];rw [Oper.upon_value];go_wp2_with fail
 rw [Lib.run_from_unsafe w ⟨b,0,none⟩ Tryz.underlying116 Tryz.underlying49 hj hsh bld_lies];simp only [Result.andThen];rw [Oper.upon_value];go_wp2_with fail
 go_end0
 exact⟨rfl,rfl⟩
theorem copy_any (B b:Nat) (bs:List Value) (w:World) (h:Lib.IsBuilder 52 5 B b bs w) :
  Calls Tryz.prog 40 #[.pointer (some ⟨b,0,none⟩)] w fun e w'=>e=.returned (.tuple #[])/\(Lib.BuilderAt 52 5 B b (.pointer (some ⟨b,0,none⟩)) bs w'/\Below B w w'/\∀ k,k≠b->w'.heap[k]?=w.heap[k]?):=by
 rcases h with h | h
 ·refine(copy_fresh b w h.cell0 h.shape h.frozen0).mono ?_;rintro e w' ⟨rfl,rfl⟩;exact⟨rfl,h.used _,(Below.refl B w).setCell (p:=⟨b,0,none⟩) h.1 _,fun k hk=>Below.heap_setCell w ⟨b,0,none⟩ _ k hk⟩
 ·refine(copy_used b w h.cell0).mono ?_;rintro e w' ⟨rfl,rfl⟩;exact⟨rfl,h,Below.refl B _,fun _ _=>rfl⟩
theorem bcells_append (l m:List UInt8):Lib.byteCells (l ++ m)=Lib.byteCells l ++ Lib.byteCells m:=by unfold Lib.byteCells;rw [List.map_append]
theorem WB.below {B b:Nat} {l:List UInt8} {w w':World} (h:WB B b l w) (hb:Below w.heap.size w w'):WB B b l w':=by
 have key:∀ p,Lib.BuilderAt 52 5 B b p (Lib.byteCells l) w->Lib.BuilderAt 52 5 B b p (Lib.byteCells l) w':=fun p ⟨hB,v,hbk,hown,hne⟩=>by
  refine⟨hB,v,(hb.block b (lt_of_block hbk)).trans hbk,⟨hown.1,?_⟩,hne⟩;rcases hown.2 with h1 | ⟨g,cap,cur,h1,h2,h3,h4⟩
  ·exact .inl h1
  ·exact .inr ⟨g,cap,cur,h1,h2,(hb.block g (lt_of_block h3)).trans h3,h4⟩
 rcases h with h | h
 ·exact .inl (key _ h)
 ·exact .inr (key _ h)
theorem WB.lt {B b:Nat} {l:List UInt8} {w:World} (h:WB B b l w):b < w.heap.size/\B<=b:=by
 rcases h with h | h
 ·exact⟨h.lt,h.1⟩
 ·exact⟨h.lt,h.1⟩
def OthersKept (b:Nat) (w w':World):Prop:=∀ (k:Nat) (cs:Array Value) (t:TypeId),t≠5->k≠b->w.heap[k]?=some (.cells cs t (0,0))->w'.heap[k]?=some (.cells cs t (0,0))
theorem wstr_any (B b:Nat) (l:List UInt8) (s:ByteArray) (w:World) (h:WB B b l w) (hlen:l.length+s.size<=140737488355328) (hBw:B<=w.heap.size) :
  Calls Tryz.prog 19 #[.pointer (some ⟨b,0,none⟩),.string s] w fun e w'=>e=.returned (.tuple #[.int .i64 s.size,.nilIface])/\WB B b (l ++ Lx.bs s) w'/\Below B w w'/\OthersKept b w w':=by
 obtain ⟨i0,hi,hz0,hz1,hz2⟩:=info_parts info_u8;have HC:=kp (copy_any B b _ w h);have HLl:=kp (Lib.byteCells_length l);clear h
 go_enter Tryz.func19,Tryz.ntmps19
 go_wp2_with fail
 refine HC.out.mono ?_;rintro e w1 ⟨rfl,h1,hb1,hk1⟩;have HK1:=kp hk1;clear hk1;obtain ⟨hB,v,hbk,hown,hne⟩:=h1;have c0:w1.cell? ⟨b,0,none⟩=some (.pointer (some ⟨b,0,none⟩)):=by rw [Lib.cell_of_heap hbk];rfl
 have c1:w1.cell? ⟨b,1,none⟩=some v:=by rw [Lib.cell_of_heap hbk];rfl
 have HB1:=kp hb1;have HOw:=kp hown;have HBk:=kp hbk;have HNe:=kp hne;have HB:=kp hB;have HLen:=kp (show(Lib.byteCells l).length+s.size<=140737488355328 by rw [HLl.out];exact hlen);clear hb1 hown hbk hne hB hlen
 go_wp2_with (at_builtin;refine Lib.wpList_append_own_string _ rfl _ _ 50 9 rfl B 5 i0 Tryz.underlying50 Tryz.underlying9 hi hz0 hz1 hz2 _ _ _ rfl HOw.out s rfl ?c3 ?c4 ?c5 ?_)
 case c3=>have:=HLen.out;unfold maxLen;omega
 case c4=>have:=HLen.out;omega
 case c5=>have:=HB1.out.size;omega
 intro v' w2 hown' hgrow _;have hlt:b < w1.heap.size:=(Array.getElem?_eq_some_iff.1 HBk.out).1
 have hb2:w2.heap[b]?=some (.cells #[.pointer (some ⟨b,0,none⟩),v] 52 (0,0)):=by
  rw [hgrow.block b hlt (fun e=>HNe.out e.symm)];exact HBk.out
 have d0:w2.cell? ⟨b,0,none⟩=some (.pointer (some ⟨b,0,none⟩)):=by rw [Lib.cell_of_heap hb2];rfl
 have d1:w2.cell? ⟨b,1,none⟩=some v:=by rw [Lib.cell_of_heap hb2];rfl
 have f1:w2.frozen? ⟨b,1,none⟩=false:=Lib.frozen_of_heap hb2 1
 obtain ⟨ao,n',cap,rfl⟩:∃ ao n' cap,v'=.slice ao n' cap:=by
  rcases hown'.2 with⟨hv,_⟩ | ⟨g,cap,cur,hv,_⟩
  ·exact⟨_,_,_,hv⟩
  ·exact⟨_,_,_,hv⟩
 have HF:=kp (show WB B b (l ++ Lx.bs s) (w2.setCell ⟨b,1,none⟩ (.slice ao n' cap))/\Below B w (w2.setCell ⟨b,1,none⟩ (.slice ao n' cap))/\OthersKept b w (w2.setCell ⟨b,1,none⟩ (.slice ao n' cap)) from
  ⟨.inr (by
   rw [bcells_append,show Lib.byteCells (Lx.bs s)=Lib.strCells s from rfl];exact Lib.BuilderAt.put HB.out hb2 (bs':=Lib.byteCells l ++ Lib.strCells s) (by simpa [Lib.strCells_length] using hown') (by decide)),
   (HB1.out.grown hgrow (by have:=HB1.out.size;omega) (fun k hk=>(HOw.out.lt k hk).1)).setCell (p:=⟨b,1,none⟩) HB.out _,fun k cs t ht hk hc=>by
   have h1:=(HK1.out k hk).trans hc;exact(Below.heap_setCell w2 ⟨b,1,none⟩ _ k hk).trans ((hgrow.block k (lt_of_block h1) (fun e=>Lib.ownBlock_ne HOw.out h1 ht e.symm)).trans h1)⟩)
 clear hown' hgrow hb2;go_wp2_with fail
 go_ret2;exact⟨rfl,HF.out⟩
theorem u8_cells:Tryz.prog.cellsOf 5=1:=by kernel_rfl
theorem bstring_any (B b:Nat) (l:List UInt8) (w:World) (h:WB B b l w) (h0:l≠[]) :
  Calls Tryz.prog 21 #[.pointer (some ⟨b,0,none⟩)] w fun e w'=>e=.returned (.string ⟨l.toArray⟩)/\Below B w w':=by
 obtain ⟨p,hB,v,hbk,hown,hne⟩:∃ p,Lib.BuilderAt 52 5 B b p (Lib.byteCells l) w:=by
  rcases h with h | h
  ·exact⟨_,h⟩
  ·exact⟨_,h⟩
 have hl0:l.length≠0:=by simpa using h0
 rw [Lib.byteCells_length] at hown
 obtain ⟨g,cap,cur,rfl,hbg,hg,hnc,hcm,hcs,htake⟩:∃ g cap cur,v=.slice (some ⟨g,0,none⟩) l.length cap/\B<=g/\w.heap[g]?=some (.cells cur 5 (0,0))/\l.length<=cap/\cap<=maxLen/\cur.size=cap * 1/\cur.toList.take (l.length * 1)=Lib.byteCells l:=by
  rcases hown.2 with⟨_,hz⟩ | ⟨g,cap,cur,hv,r⟩
  ·exact absurd hz hl0
  ·exact⟨g,cap,cur,hv,r⟩
 have c1:w.drew.cell? ⟨b,1,none⟩=some (.slice (some ⟨g,0,none⟩) l.length cap):=by
  have:w.drew.heap[b]?=some (.cells #[p,.slice (some ⟨g,0,none⟩) l.length cap] 52 (0,0)):=hbk;rw [Lib.cell_of_heap this];rfl
 have hSD:(Builtin.unsafeSliceData_ #[50] 78 #[.slice (some ⟨g,0,none⟩) l.length cap]).run Tryz.prog w.drew=.ok (.pointer (some ⟨g,0,none⟩)) w.drew :=
  Lib.run_unsafeSliceData_row _ _ _ _ _ _ (by omega)
 have hUS:(Builtin.unsafeString_ #[78,3] 9 #[.pointer (some ⟨g,0,none⟩),.int .i64 l.length]).run Tryz.prog w.drew=.ok (.string ⟨l.toArray⟩) (w.drew.freeze ⟨g,0,none⟩ l.length):=by
  refine Lib.run_unsafeString_row w.drew 78 3 9 5 Tryz.underlying78 u8_cells g cur.size (by have hg':w.drew.heap[g]?=some (.cells cur 5 (0,0)):=hg;simp [World.shape?,hg']) l h0 (by omega) (by unfold maxLen at hcm;omega) ?_;intro j x hx;have:=hown.cells (g:=g) rfl j (.int .u8 x.toNat) (by simp [Lib.byteCells,hx]);exact this
 have HBG:=kp hbg;clear hbk hown hne hg hnc hcm hcs htake hl0 h hbg hB
 go_enter Tryz.func21,Tryz.ntmps21
 go_wp2_with fail
 go_region_with fail
 all_goals
  go_wp2_with fail
  go_ret;exact⟨rfl,Lib.below_freeze (Below.drew (Below.refl B w)) (p:=⟨g,0,none⟩) HBG.out _⟩
end Bd
namespace Bn
open Go Go.RowKit Dt
theorem rd_skip {l r:List UInt8} {x:Sexp} (h:Rd l x r):Rd (skipL false l) x r:=by
 cases h with
 | name h hs=>exact .name (by rw [skipL_idem];exact h) hs
 | num h hs=>exact .num (by rw [skipL_idem];exact h) hs
 | key h hs=>exact .key (by rw [skipL_idem];exact h) hs
 | list f h h0 hc hx hn=>exact .list f (by rw [skipL_idem];exact h) h0 hc hx hn
theorem rd_some {l r:List UInt8} {x:Sexp} (h:Rd l x r):skipL false l≠[]:=by
 intro e;have h1:=(rd_skip h).shorter;rw [e] at h1;simp at h1
inductive RdSeq (s:ByteArray):Nat->List Sexp->Prop
 | nil {p:Nat} (hp:p<=s.size) (h:skipL false (from_ s p)=[]):RdSeq s p []
 | cons {p:Nat} {x:Sexp} {r:List UInt8} {xs:List Sexp} (hp:p<=s.size) (h:Rd (from_ s p) x r) (hd:x.depth<=60) (hr:RdSeq s (at_ s r) xs):RdSeq s p (x :: xs)
theorem rd_place {s:ByteArray} {p:Nat} {x:Sexp} {r:List UInt8} (hp:p<=s.size) (h:Rd (from_ s p) x r):skipP s p < s.size/\p<=skipP s p/\Rd (from_ s (skipP s p)) x r:=by
 have hsf:=from_of_suffix (s:=s) (k:=p) (skipL_suffix false (from_ s p));have hq1:from_ s (skipP s p)=skipL false (from_ s p):=hsf.1;refine⟨?_,hsf.2.2 hp,by rw [hq1];exact rd_skip h⟩;rcases Nat.lt_or_ge (skipP s p) s.size with h' | h'
 ·exact h'
 ·have:=rd_some h;rw [← hq1,from_end h'] at this;exact absurd rfl this
def ahead1:ByteArray:=⟨[40,112,117,115,104,32,49,41,10].toArray⟩
def ahead2:ByteArray:=⟨[40,112,117,115,104,32,49,41,10,59,61,32,115,117,99,99,101,115,115,10,40,112,111,112,32,50,41,10].toArray⟩
def ahead3:ByteArray:=⟨[40,112,111,112,32,49,41,10].toArray⟩
theorem rdP1:Rd (from_ ⟨[40,112,117,115,104,32,49,41,10].toArray⟩ 0) (.mk 3 { data:=#[] } [symX sPush,.mk 1 { data:=#[49] } []]) [10]:=by
 refine rd_of_all (r:=[112,117,115,104,32,49,41,10]) (by kernel_rfl) ?_;refine RdAll.sym (t:=[112,117,115,104]) (r:=[32,49,41,10]) (by kernel_rfl) (by kernel_rfl) ?_;refine .cons (m:=[41,10]) (not_close (k:=3) (t:=[49]) (r:=[41,10]) (by kernel_rfl) (by decide)) (.num (t:=[49]) (by kernel_rfl) (by kernel_rfl)) ?_;exact .nil (by kernel_rfl)
theorem rdP2a:Rd (from_ ⟨[40,112,117,115,104,32,49,41,10,59,61,32,115,117,99,99,101,115,115,10,40,112,111,112,32,50,41,10].toArray⟩ 0) (.mk 3 { data:=#[] } [symX sPush,.mk 1 { data:=#[49] } []]) [10,59,61,32,115,117,99,99,101,115,115,10,40,112,111,112,32,50,41,10]:=by
 refine rd_of_all (r:=[112,117,115,104,32,49,41,10,59,61,32,115,117,99,99,101,115,115,10,40,112,111,112,32,50,41,10]) (by kernel_rfl) ?_;refine RdAll.sym (t:=[112,117,115,104]) (r:=[32,49,41,10,59,61,32,115,117,99,99,101,115,115,10,40,112,111,112,32,50,41,10]) (by kernel_rfl) (by kernel_rfl) ?_;refine .cons (m:=[41,10,59,61,32,115,117,99,99,101,115,115,10,40,112,111,112,32,50,41,10]) (not_close (k:=3) (t:=[49]) (r:=[41,10,59,61,32,115,117,99,99,101,115,115,10,40,112,111,112,32,50,41,10]) (by kernel_rfl) (by decide)) (.num (t:=[49]) (by kernel_rfl) (by kernel_rfl)) ?_;exact .nil (by kernel_rfl)
theorem rdP2b:Rd (from_ ⟨[40,112,117,115,104,32,49,41,10,59,61,32,115,117,99,99,101,115,115,10,40,112,111,112,32,50,41,10].toArray⟩ 8) (.mk 3 { data:=#[] } [symX sPop,.mk 1 { data:=#[50] } []]) [10]:=by
 refine rd_of_all (r:=[112,111,112,32,50,41,10]) (by kernel_rfl) ?_;refine RdAll.sym (t:=[112,111,112]) (r:=[32,50,41,10]) (by kernel_rfl) (by kernel_rfl) ?_;refine .cons (m:=[41,10]) (not_close (k:=3) (t:=[50]) (r:=[41,10]) (by kernel_rfl) (by decide)) (.num (t:=[50]) (by kernel_rfl) (by kernel_rfl)) ?_;exact .nil (by kernel_rfl)
theorem rdP3:Rd (from_ ⟨[40,112,111,112,32,49,41,10].toArray⟩ 0) (.mk 3 { data:=#[] } [symX sPop,.mk 1 { data:=#[49] } []]) [10]:=by
 refine rd_of_all (r:=[112,111,112,32,49,41,10]) (by kernel_rfl) ?_;refine RdAll.sym (t:=[112,111,112]) (r:=[32,49,41,10]) (by kernel_rfl) (by kernel_rfl) ?_;refine .cons (m:=[41,10]) (not_close (k:=3) (t:=[49]) (r:=[41,10]) (by kernel_rfl) (by decide)) (.num (t:=[49]) (by kernel_rfl) (by kernel_rfl)) ?_;exact .nil (by kernel_rfl)
theorem seq1:RdSeq ahead1 0 [xPush]:=.cons (by decide) rdP1 (of_decide_eq_true (by kernel_rfl)) (.nil (by decide) (by kernel_rfl))
theorem seq2:RdSeq ahead2 0 [xPush,xPop2]:=.cons (by decide) rdP2a (of_decide_eq_true (by kernel_rfl)) (.cons (by decide) rdP2b (of_decide_eq_true (by kernel_rfl)) (.nil (by decide) (by kernel_rfl)))
theorem seq3:RdSeq ahead3 0 [xPop1]:=.cons (by decide) rdP3 (of_decide_eq_true (by kernel_rfl)) (.nil (by decide) (by kernel_rfl))
theorem ahead1_at:bA.extract 0 9=ahead1:=by kernel_rfl
theorem ahead2_at:bA.extract 0 28=ahead2:=by kernel_rfl
theorem ahead3_at:bB.extract 0 8=ahead3:=by kernel_rfl
def itemsF:Nat->ByteArray->Nat->List (Nat × ByteArray)
 | 0,_,_=>[]
 | f+1,s,p=>if p < s.size then(p,s.extract p (p+lineN (from_ s p))) :: itemsF f s (p+lineN (from_ s p)) else []
def itemsAt (s:ByteArray) (p:Nat):List (Nat × ByteArray):=itemsF (s.size - p) s p
theorem lineN_at {s:ByteArray} {p:Nat} (h:p < s.size):1<=lineN (from_ s p)/\p+lineN (from_ s p)<=s.size:=by
 have hn:=lineN_in (l:=from_ s p) (by rw [from_at h];simp);rw [from_len] at hn
 omega
theorem itemsF_more:∀ (f1 f2:Nat) (s:ByteArray) (p:Nat),s.size - p<=f1->s.size - p<=f2->itemsF f1 s p=itemsF f2 s p
 | 0,0,_,_,_,_=>rfl
 | 0,f2+1,s,p,h,_=>by unfold itemsF;rw [if_neg (by omega)]
 | f1+1,0,s,p,_,h=>by unfold itemsF;rw [if_neg (by omega)]
 | f1+1,f2+1,s,p,h1,h2=>by
  unfold itemsF
  split
  ·rename_i hp
   have h:=lineN_at hp;rw [itemsF_more f1 f2 s _ (by omega) (by omega)]
  ·rfl
theorem itemsAt_end {s:ByteArray} {p:Nat} (h:s.size<=p):itemsAt s p=[]:=by
 unfold itemsAt;rw [show s.size - p=0 by omega]
 rfl
theorem itemsAt_cons {s:ByteArray} {p:Nat} (h:p < s.size):itemsAt s p=(p,s.extract p (p+lineN (from_ s p))) :: itemsAt s (p+lineN (from_ s p)):=by
 have hn:=lineN_at h;unfold itemsAt;obtain ⟨k,hk⟩:∃ k,s.size - p=k+1:=⟨s.size - p - 1,by omega⟩;rw [hk,itemsF,if_pos h,itemsF_more k _ s _ (by omega) nlq]
theorem items_lines (s:ByteArray):∀ (n p:Nat),s.size - p<=n->(itemsAt s p).map (fun x=>Lx.bs x.2)=linesT (from_ s p):=by
 intro n
 induction n with
 | zero =>
  intro p h;rw [itemsAt_end (by omega),from_end (by omega)]
  rfl
 | succ n ih =>
  intro p h
  by_cases hp:p < s.size
  ·have hn:=lineN_at hp;rw [itemsAt_cons hp,linesT_cons (by rw [from_at hp];simp),List.map_cons,ih _ (by omega)]
   congr 1
   ·show Lx.bs (s.extract p (p+lineN (from_ s p)))=_;rw [extract_from,Lx.bs_mk,show p+lineN (from_ s p) - p=lineN (from_ s p) by omega]
   ·unfold from_;rw [List.drop_drop]
  ·rw [itemsAt_end (by omega),from_end (by omega)]
   rfl
end Bn
namespace Dt
open Go.RowKit
def headS (x:Sexp):ByteArray:=match x.l with
 | []=>{ data:=#[] }
 | y :: _=>if x.kind=3/\y.kind=0 then y.text else { data:=#[] }
theorem head_any {w:World} {A:Option Addr} {c:Nat} {x:Sexp} (h:SexpR w [.int .i8 x.kind,.string x.text,.slice A x.l.length c] x) :
  Calls Tryz.prog 80 #[.agg #[.int .i8 x.kind,.string x.text,.slice A x.l.length c]] w fun e w'=>e=.returned (.string (headS x))/\Below w.heap.size w w':=by
 obtain ⟨A0,c0,e0,hl,hc,hcm,_,hlb,_⟩:=h.open';simp only [List.cons.injEq,Value.slice.injEq,and_true,true_and] at e0;obtain ⟨rfl,rfl⟩:=e0;have HB:=kp ((brq w).alloc nlq (.cells #[.int .i8 x.kind,.string x.text,.slice A x.l.length c] 81))
 have HS:=kp (show headS x=match x.l with
  | []=>{ data:=#[] }
  | y :: _=>if x.kind=3/\y.kind=0 then y.text else { data:=#[] } from rfl)
 have HL:=kp hl;generalize headS x=hd at *;generalize x.text=t at *;generalize x.l=l at *;clear h hl
 by_cases hk:x.kind=3
 ·rw [hk] at HS HB ⊢
  cases l with
  | nil =>
   replace HS:=HS.out;subst HS
   go_enter Tryz.func80,Tryz.ntmps80
   go_wp2_with fail
   go_ret;exact⟨rfl,HB.out⟩
  | cons y r =>
   obtain ⟨b,o,A',c',rfl,hbl,e0,e1,e2,hr⟩:=sexp_cells HL.out (k:=0) (y:=y) rfl;have HC:=kp (show ∀ j u,w.cell? ⟨b,o+0 * 3+j,none⟩=some u->∀ w',Below w.heap.size w w'->w'.cell? ⟨b,o+0 * 3+j,none⟩=some u from fun j u hu w' hb=>(hb.cell (p:=⟨b,o+0 * 3+j,none⟩) hbl).trans hu);have hn:(((y :: r).length:Int) == 0)=false:=by rw [beq_eq_false_iff_ne,List.length_cons];omega
   have hn2:(0:Int) < ((y :: r).length:Int):=by rw [List.length_cons];omega
   generalize (y :: r).length=n at *;clear hr HL e2
   by_cases h0:y.kind=0
   ·replace HS:hd=y.text:=HS.out.trans (if_pos ⟨rfl,h0⟩);subst HS;rw [h0] at e0
    go_enter Tryz.func80,Tryz.ntmps80
    go_upto_region 1 with fail
    have d0:=HC.out 0 _ e0 _ HB.out;have d1:=HC.out 1 _ e1 _ HB.out;simp only [Nat.add_zero,Nat.zero_mul] at d0;simp only [Nat.add_zero,Nat.zero_mul] at d1;obtain ⟨q0,q1,q2,_⟩:=box_cells w (.int .i8 3) (.string t) (.slice (some ⟨b,o,none⟩) n c) 81;generalize w.alloc (.cells #[.int .i8 3,.string t,.slice (some ⟨b,o,none⟩) n c] 81)=w1 at *;go_wp2_with fail
    go_ret;exact⟨rfl,HB.out⟩
   ·replace HS:hd={ data:=#[] }:=HS.out.trans (if_neg (fun h=>h0 h.2));subst HS;have h0':(y.kind == 0)=false:=beq_eq_false_iff_ne.2 h0;have h0'':(y.kind != 0)=true:=by rw [bne,h0'];rfl
    generalize y.kind=yk at *
    go_enter Tryz.func80,Tryz.ntmps80
    go_upto_region 1 with fail
    have d0:=HC.out 0 _ e0 _ HB.out;simp only [Nat.add_zero,Nat.zero_mul] at d0;obtain ⟨q0,q1,q2,_⟩:=box_cells w (.int .i8 3) (.string t) (.slice (some ⟨b,o,none⟩) n c) 81;generalize w.alloc (.cells #[.int .i8 3,.string t,.slice (some ⟨b,o,none⟩) n c] 81)=w1 at *;go_wp2_with fail
    go_ret;exact⟨rfl,HB.out⟩
 ·have hk':(x.kind == 3)=false:=beq_eq_false_iff_ne.2 hk;have hk'':(x.kind != 3)=true:=by rw [bne,hk'];rfl
  replace HS:hd={ data:=#[] }:=by
   rw [HS.out]
   cases l with
   | nil=>rfl
   | cons y r=>exact if_neg (fun h=>hk h.1)
  subst HS;generalize x.kind=k at *;generalize l.length=n at *
  go_enter Tryz.func80,Tryz.ntmps80
  go_wp2_with fail
  go_ret;exact⟨rfl,HB.out⟩
end Dt
namespace Dt
open Go.RowKit Go.ChangeShapes Go.WideShapes Go.Deep
def PairR (_:World) (vs:List Value) (p:ByteArray × ByteArray):Prop:=vs=[.string p.1,.string p.2]/\(p.1.size:Int)<=140737488351232/\(p.2.size:Int)<=140737488351232
theorem PairR.lasts:Lasts PairR:=fun _ _ _ _ _ h=>h
structure CmdAt (w:World) (A1:Option Addr) (c1:Nat) (A2:Option Addr) (c2:Nat) (A3:Option Addr) (c3:Nat) (A4:Option Addr) (c4:Nat) (c:Cmd):Prop where
 l:Lies 1 (IntR .i64) w A1 c.l
 args:Lies 1 StrR w A2 c.args
 params:Lies 2 PairR w A3 c.params
 terms:Lies 3 SexpR w A4 c.terms
 l1:c.l.length<=c1
 l2:c.args.length<=c2
 l3:c.params.length<=c3
 l4:c.terms.length<=c4
 m1:c1<=maxLen
 m2:c2<=maxLen
 m3:c3<=maxLen
 m4:c4<=maxLen
 b4:c.terms.length * 48<=140737488351232
 kind:(Lit.int .i8 c.kind).wf=true
 n:I64 c.n
 name:(c.name.size:Int)<=140737488351232
 res:(c.res.size:Int)<=140737488351232
theorem CmdAt.on {w w':World} {A1 A2 A3 A4:Option Addr} {c1 c2 c3 c4:Nat} {c:Cmd} (h:CmdAt w A1 c1 A2 c2 A3 c3 A4 c4 c) (hb:Below w.heap.size w w'):CmdAt w' A1 c1 A2 c2 A3 c3 A4 c4 c :=
 { h with l:=h.l.on (IntR.lasts _) hb,args:=h.args.on StrR.lasts hb,params:=h.params.on PairR.lasts hb,terms:=h.terms.on SexpR.lasts hb }
def cmdCells (A1:Option Addr) (c1:Nat) (A2:Option Addr) (c2:Nat) (A3:Option Addr) (c3:Nat) (A4:Option Addr) (c4:Nat) (c:Cmd):List Value :=
 [.int .i8 c.kind,.string c.name,.int .i64 c.n,.slice A1 c.l.length c1,.slice A2 c.args.length c2,.slice A3 c.params.length c3,.string c.res,.slice A4 c.terms.length c4]
def CmdR (w:World) (vs:List Value) (c:Cmd):Prop:=∃ A1 c1 A2 c2 A3 c3 A4 c4,vs=cmdCells A1 c1 A2 c2 A3 c3 A4 c4 c/\CmdAt w A1 c1 A2 c2 A3 c3 A4 c4 c
theorem CmdR.lasts:Lasts CmdR:=fun _ _ _ _ hb ⟨A1,c1,A2,c2,A3,c3,A4,c4,h1,h2⟩=>⟨A1,c1,A2,c2,A3,c3,A4,c4,h1,h2.on hb⟩
theorem list8 {α:Type} {l:List α} (h:l.length=8):∃ a b c d e f g i,l=[a,b,c,d,e,f,g,i]:=by
 match l,h with
 | [a,b,c,d,e,f,g,i],_=>exact⟨a,b,c,d,e,f,g,i,rfl⟩
section
variable {H:Type} {enc:TypeId × Value->H}
end
end Dt
namespace Dt
theorem eqB_sexp (a b:Sexp):eqB a b=(eqB a.kind b.kind && (eqB a.text b.text && eqB a.l b.l)):=by
 rw [Bool.eq_iff_iff];simp only [Bool.and_eq_true,eqB_true]
 constructor
 ·intro h;subst h;exact⟨rfl,rfl,rfl⟩
 ·intro ⟨h1,h2,h3⟩
  cases a;cases b
  obtain rfl:=h1;obtain rfl:=h2;obtain rfl:=h3
  rfl
theorem eqB_cmd (a b:Cmd):eqB a b=(eqB a.kind b.kind && (eqB a.name b.name && (eqB a.n b.n && (eqB a.res b.res && (eqB a.l b.l && (eqB a.args b.args && (eqB a.params b.params && eqB a.terms b.terms))))))):=by
 rw [Bool.eq_iff_iff];simp only [Bool.and_eq_true,eqB_true]
 constructor
 ·intro h;subst h;exact⟨rfl,rfl,rfl,rfl,rfl,rfl,rfl,rfl⟩
 ·intro ⟨h1,h2,h3,h4,h5,h6,h7,h8⟩
  cases a;cases b
  obtain rfl:=h1;obtain rfl:=h2;obtain rfl:=h3;obtain rfl:=h4;obtain rfl:=h5;obtain rfl:=h6;obtain rfl:=h7;obtain rfl:=h8
  rfl
theorem eqB_int (a b:Int):eqB a b=decide (a=b):=by unfold eqB;exact decide_eq_decide.2 Iff.rfl
end Dt
namespace Cm
open Go.RowKit Dt
theorem bytes_ne {x y:ByteArray} (h:x≠y):(x.toList == y.toList)=false:=by
 rw [beq_eq_false_iff_ne];intro e;rw [Lx.bs_toList,Lx.bs_toList] at e;exact h (ByteArray.ext (Array.toList_inj.1 e))
theorem str_get {w:World} {A:Option Addr} {l:List ByteArray} (h:Lies 1 StrR w A l) {k:Nat} (hk:k < l.length):∃ b o,A=some ⟨b,o,none⟩/\w.cell? ⟨b,o+k,none⟩=some (.string (l.getD k noS)):=by
 obtain ⟨b,o,vs,hA,_,_,hc,hr⟩:=h.at' (gqe hk);obtain ⟨rfl,_⟩:=hr;refine⟨b,o,hA,?_⟩;have:=hc 0 _ rfl;rw [Nat.mul_one,Nat.add_zero] at this;rw [this,List.getD_eq_getElem?_getD,gqe hk]
 rfl
theorem pair_get {w:World} {A:Option Addr} {l:List (ByteArray × ByteArray)} (h:Lies 2 PairR w A l) {k:Nat} (hk:k < l.length):∃ b o,A=some ⟨b,o,none⟩/\w.cell? ⟨b,o+k * 2,none⟩=some (.string (l.getD k (noS,noS)).1)/\w.cell? ⟨b,o+k * 2+1,none⟩=some (.string (l.getD k (noS,noS)).2):=by
 obtain ⟨b,o,vs,hA,_,_,hc,hr⟩:=h.at' (gqe hk);obtain ⟨rfl,_⟩:=hr;refine⟨b,o,hA,?_⟩;rw [List.getD_eq_getElem?_getD,gqe hk];exact⟨hc 0 _ rfl,hc 1 _ rfl⟩
theorem eqInts_any (xs ys:List Int) (w:World) (A B:Option Addr) (c d:Nat) (hx:Cells w A (xs.map (Value.int .i64))) (hy:Cells w B (ys.map (Value.int .i64))) (hl:(xs.length:Int)<=9223372036854775807) (_:(ys.length:Int)<=9223372036854775807) :
  Calls Tryz.prog 180 #[.slice A xs.length c,.slice B ys.length d] w fun e w'=>e=.returned (.bool (eqB xs ys))/\Below w.heap.size w w':=by
 by_cases hq:xs.length=ys.length
 ·have hq2:((xs.length:Int) != (ys.length:Int))=false:=by simp;omega
  have HE:=kp (eqB_full hq)
  go_enter Tryz.func180,Tryz.ntmps180
  go_wp2_with fail
  go_loopw [13] (fun v wr=>∃ k:Nat,k<=xs.length/\v=.int .i64 k/\xs.take k=ys.take k/\Below w.heap.size w wr) (fun v _=>xs.length - (intOf v).toNat)
  case atStart=>exact⟨0,Nat.zero_le _,rfl,by simp,Below.refl _ _⟩
  case round =>
   obtain ⟨k,hk,rfl,ht,hb⟩:=hrel;have HT:=kp ht;have HB:=kp hb;clear ht
   by_cases hlt:k < xs.length
   ·have hlt2:(k:Int) < (xs.length:Int):=by omega
    have hltm:(k:Int) < (ys.length:Int):=by omega
    obtain ⟨b,o,rfl,p0⟩:=cells_get (hx.on (hb.drew)) hlt;obtain ⟨b',o',rfl,r0⟩:=cells_get (hy.on (hb.drew)) (show k < ys.length by omega);have HS:=kp (eqB_step (xs:=xs) (ys:=ys) (d:=0) hlt (by omega));generalize xs.getD k 0=x at *;generalize ys.getD k 0=y at *;clear hb
    by_cases he:x=y
    ·have he2:(x != y)=false:=by simp [he]
     have HN:=kp ((HS.out.1 he) HT.out);clear he HS;go_wp2_with fail
     refine wp_region_held_drew (S:=fun W=>W.cell? ⟨b,o+k,none⟩=some (.int .i64 x)/\W.cell? ⟨b',o'+k,none⟩=some (.int .i64 y)) (by kernel_rfl) (⟨p0,r0⟩) (fun hHeld=>?_);refine plz [0,1,2,3,4,5,6,7,8] ?_;iterate 9 (refine tnz (v:=?_) ?_ ?_;rotate_left;(focus (intro w hSw;go_simp;try with_reducible rfl));try simp only [pt])
     refine pzz ?_;refine dnz ?_;go_wp2_with fail
     go_roundw
     case rel=>exact⟨k+1,by omega,by go_num,HN.out,HB.out.drew⟩
     case measure=>simp [intOf];omega
    ·have he2:(x != y)=true:=by simp [he]
     have HN:=kp (HS.out.2 he);clear he HS;go_wp2_with fail
     refine wp_region_held_drew (S:=fun W=>W.cell? ⟨b,o+k,none⟩=some (.int .i64 x)/\W.cell? ⟨b',o'+k,none⟩=some (.int .i64 y)) (by kernel_rfl) (⟨p0,r0⟩) (fun hHeld=>?_);refine plz [0,1,2,3,4,5,6,7,8] ?_;iterate 9 (refine tnz (v:=?_) ?_ ?_;rotate_left;(focus (intro w hSw;go_simp;try with_reducible rfl));try simp only [pt])
     refine pzz ?_;refine dnz ?_;go_wp2_with fail
     go_ret;exact⟨ret_bool HN.out.symm,HB.out.drew⟩
   ·obtain rfl:k=xs.length:=by omega
    have HN:=kp (HE.out HT.out);clear hb;go_wp2_with fail
    go_ret;exact⟨ret_bool HN.out.symm,HB.out⟩
 ·have hq2:((xs.length:Int) != (ys.length:Int))=true:=by simp;omega
  have HN:=kp (eqB_len hq);clear hq
  go_enter Tryz.func180,Tryz.ntmps180
  go_wp2_with fail
  go_ret;exact⟨ret_bool HN.out.symm,Below.refl _ _⟩
theorem eqStrs_any (xs ys:List ByteArray) (w:World) (A B:Option Addr) (c d:Nat) (hx:Lies 1 StrR w A xs) (hy:Lies 1 StrR w B ys) (hl:(xs.length:Int)<=9223372036854775807) (_:(ys.length:Int)<=9223372036854775807) :
  Calls Tryz.prog 181 #[.slice A xs.length c,.slice B ys.length d] w fun e w'=>e=.returned (.bool (eqB xs ys))/\Below w.heap.size w w':=by
 by_cases hq:xs.length=ys.length
 ·have hq2:((xs.length:Int) != (ys.length:Int))=false:=by simp;omega
  have HE:=kp (eqB_full hq);have hle:ys.length<=xs.length:=by omega
  have hle':xs.length<=ys.length:=by omega
  clear hq
  go_enter Tryz.func181,Tryz.ntmps181
  go_wp2_with fail
  go_loopw [13] (fun v wr=>∃ k:Nat,k<=xs.length/\v=.int .i64 k/\xs.take k=ys.take k/\Below w.heap.size w wr) (fun v _=>xs.length - (intOf v).toNat)
  case atStart=>exact⟨0,Nat.zero_le _,rfl,by simp,Below.refl _ _⟩
  case round =>
   obtain ⟨k,hk,rfl,ht,hb⟩:=hrel;have HT:=kp ht;have HB:=kp hb;clear ht
   by_cases hlt:k < xs.length
   ·have hlt2:(k:Int) < (xs.length:Int):=by omega
    have hltm:(k:Int) < (ys.length:Int):=by omega
    obtain ⟨b,o,rfl,p0⟩:=str_get (hx.on StrR.lasts (hb.drew)) hlt;obtain ⟨b',o',rfl,r0⟩:=str_get (hy.on StrR.lasts (hb.drew)) (show k < ys.length by omega);have HS:=kp (eqB_step (xs:=xs) (ys:=ys) (d:=noS) hlt (by omega));generalize xs.getD k noS=x at *;generalize ys.getD k noS=y at *;clear hb
    by_cases he:x=y
    ·have he2:(x.toList == y.toList)=true:=by simp [he]
     have HN:=kp ((HS.out.1 he) HT.out);clear he HS;go_wp2_with fail
     refine wp_region_held_drew (S:=fun W=>W.cell? ⟨b,o+k,none⟩=some (.string x)/\W.cell? ⟨b',o'+k,none⟩=some (.string y)) (by kernel_rfl) (⟨p0,r0⟩) (fun hHeld=>?_);refine plz [0,1,2,3,4,5,6,7,8] ?_;iterate 9 (refine tnz (v:=?_) ?_ ?_;rotate_left;(focus (intro w hSw;go_simp;try with_reducible rfl));try simp only [pt])
     refine pzz ?_;refine dnz ?_;go_wp2_with fail
     go_roundw
     case rel=>exact⟨k+1,by omega,by go_num,HN.out,HB.out.drew⟩
     case measure=>simp [intOf];omega
    ·have he2:(x.toList == y.toList)=false:=bytes_ne he;have HN:=kp (HS.out.2 he);clear he HS;go_wp2_with fail
     refine wp_region_held_drew (S:=fun W=>W.cell? ⟨b,o+k,none⟩=some (.string x)/\W.cell? ⟨b',o'+k,none⟩=some (.string y)) (by kernel_rfl) (⟨p0,r0⟩) (fun hHeld=>?_);refine plz [0,1,2,3,4,5,6,7,8] ?_;iterate 9 (refine tnz (v:=?_) ?_ ?_;rotate_left;(focus (intro w hSw;go_simp;try with_reducible rfl));try simp only [pt])
     refine pzz ?_;refine dnz ?_;go_wp2_with fail
     go_ret;exact⟨ret_bool HN.out.symm,HB.out.drew⟩
   ·obtain rfl:k=xs.length:=by omega
    have HN:=kp (HE.out HT.out);clear hb;go_wp2_with fail
    go_ret;exact⟨ret_bool HN.out.symm,HB.out⟩
 ·have hq2:((xs.length:Int) != (ys.length:Int))=true:=by simp;omega
  have HN:=kp (eqB_len hq);clear hq
  go_enter Tryz.func181,Tryz.ntmps181
  go_wp2_with fail
  go_ret;exact⟨ret_bool HN.out.symm,Below.refl _ _⟩
theorem cS':Tryz.prog.cellsOf 9=1:=by kernel_rfl
theorem pair_ne (a b:ByteArray × ByteArray) (W:World):(binOp .neq 173 (.agg #[.string a.1,.string a.2]) (.agg #[.string b.1,.string b.2])).run Tryz.prog W=.ok (.bool (!eqB a b)) W:=by
 have h:eqB a b=(eqB a.1 b.1 && eqB a.2 b.2):=by
  rw [Bool.eq_iff_iff,eqB_true,Bool.and_eq_true,eqB_true,eqB_true];obtain ⟨a0,a1⟩:=a;obtain ⟨b0,b1⟩:=b;simp
 have hs:(Tryz.prog.info? 9).isSome=true:=by kernel_rfl
 obtain ⟨i,hi⟩:=Option.isSome_iff_exists.1 hs
 have ha:∀ d,(Op.equalIn (d+2) 173 (.agg #[.string a.1,.string a.2]) (.agg #[.string b.1,.string b.2])).run Tryz.prog W=.ok (eqB a b) W:=fun d=>by
  rw [run_equalIn_array W (d+1) _ _ Tryz.underlying173 hi,cS',h];have r2:List.range 2=[0,1]:=rfl;rw [r2];simp only [Op.eqItems]
  by_cases h0:a.1=b.1
  ·by_cases h1:a.2=b.2
   ·rw [eqB_true.2 h0,eqB_true.2 h1];have t0:(a.1.toList == b.1.toList)=true:=by simp [h0]
    have t1:(a.2.toList == b.2.toList)=true:=by simp [h1]
    go_simp
   ·rw [eqB_true.2 h0,eqB_false.2 h1];have t0:(a.1.toList == b.1.toList)=true:=by simp [h0]
    have t1:(a.2.toList == b.2.toList)=false:=bytes_ne h1;go_simp
  ·rw [eqB_false.2 h0];have t0:(a.1.toList == b.1.toList)=false:=bytes_ne h0;go_simp
 have hb:(Op.equalIn 10000 173 (.agg #[.string a.1,.string a.2]) (.agg #[.string b.1,.string b.2])).run Tryz.prog W=.ok (eqB a b) W:=ha 9998;clear ha h;generalize eqB a b=bb at *;go_simp
theorem eqPairs_any (xs ys:List (ByteArray × ByteArray)) (w:World) (A B:Option Addr) (c d:Nat) (hx:Lies 2 PairR w A xs) (hy:Lies 2 PairR w B ys) (hl:(xs.length:Int)<=9223372036854775807) (_:(ys.length:Int)<=9223372036854775807) :
  Calls Tryz.prog 182 #[.slice A xs.length c,.slice B ys.length d] w fun e w'=>e=.returned (.bool (eqB xs ys))/\Below w.heap.size w w':=by
 by_cases hq:xs.length=ys.length
 ·have hq2:((xs.length:Int) != (ys.length:Int))=false:=by simp;omega
  have HE:=kp (eqB_full hq);have hle:ys.length<=xs.length:=by omega
  have hle':xs.length<=ys.length:=by omega
  clear hq
  go_enter Tryz.func182,Tryz.ntmps182
  go_wp2_with fail
  go_loopw [13] (fun v wr=>∃ k:Nat,k<=xs.length/\v=.int .i64 k/\xs.take k=ys.take k/\Below w.heap.size w wr) (fun v _=>xs.length - (intOf v).toNat)
  case atStart=>exact⟨0,Nat.zero_le _,rfl,by simp,Below.refl _ _⟩
  case round =>
   obtain ⟨k,hk,rfl,ht,hb⟩:=hrel;have HT:=kp ht;have HB:=kp hb;clear ht
   by_cases hlt:k < xs.length
   ·have hlt2:(k:Int) < (xs.length:Int):=by omega
    have hltm:(k:Int) < (ys.length:Int):=by omega
    obtain ⟨b,o,rfl,p0,p1⟩:=pair_get (hx.on PairR.lasts (hb.drew)) hlt;obtain ⟨b',o',rfl,r0,r1⟩:=pair_get (hy.on PairR.lasts (hb.drew)) (show k < ys.length by omega);have HS:=kp (eqB_step (xs:=xs) (ys:=ys) (d:=(noS,noS)) hlt (by omega));generalize xs.getD k (noS,noS)=x at *;generalize ys.getD k (noS,noS)=y at *;clear hb
    by_cases he:x=y
    ·have he2:=fun W=>pair_ne x y W;rw [eqB_true.2 he] at he2;have HN:=kp ((HS.out.1 he) HT.out);clear he HS;go_wp2_with fail
     refine wp_region_held_drew (S:=fun W=>(W.cell? ⟨b,o+k * 2,none⟩=some (.string x.1)/\W.cell? ⟨b,o+k * 2+1,none⟩=some (.string x.2))/\W.cell? ⟨b',o'+k * 2,none⟩=some (.string y.1)/\W.cell? ⟨b',o'+k * 2+1,none⟩=some (.string y.2)) (by kernel_rfl) (⟨⟨p0,p1⟩,r0,r1⟩) (fun hHeld=>?_);refine plz [0,1,2,3,4,5,6,7,8] ?_;iterate 9 (refine tnz (v:=?_) ?_ ?_;rotate_left;(focus (intro w hSw;go_simp;try with_reducible rfl));try simp only [pt])
     refine pzz ?_;refine dnz ?_;go_wp2_with fail
     go_roundw
     case rel=>exact⟨k+1,by omega,by go_num,HN.out,HB.out.drew⟩
     case measure=>simp [intOf];omega
    ·have he2:=fun W=>pair_ne x y W;rw [eqB_false.2 he] at he2;have HN:=kp (HS.out.2 he);clear he HS;go_wp2_with fail
     refine wp_region_held_drew (S:=fun W=>(W.cell? ⟨b,o+k * 2,none⟩=some (.string x.1)/\W.cell? ⟨b,o+k * 2+1,none⟩=some (.string x.2))/\W.cell? ⟨b',o'+k * 2,none⟩=some (.string y.1)/\W.cell? ⟨b',o'+k * 2+1,none⟩=some (.string y.2)) (by kernel_rfl) (⟨⟨p0,p1⟩,r0,r1⟩) (fun hHeld=>?_);refine plz [0,1,2,3,4,5,6,7,8] ?_;iterate 9 (refine tnz (v:=?_) ?_ ?_;rotate_left;(focus (intro w hSw;go_simp;try with_reducible rfl));try simp only [pt])
     refine pzz ?_;refine dnz ?_;go_wp2_with fail
     go_ret;exact⟨ret_bool HN.out.symm,HB.out.drew⟩
   ·obtain rfl:k=xs.length:=by omega
    have HN:=kp (HE.out HT.out);clear hb;go_wp2_with fail
    go_ret;exact⟨ret_bool HN.out.symm,HB.out⟩
 ·have hq2:((xs.length:Int) != (ys.length:Int))=true:=by simp;omega
  have HN:=kp (eqB_len hq);clear hq
  go_enter Tryz.func182,Tryz.ntmps182
  go_wp2_with fail
  go_ret;exact⟨ret_bool HN.out.symm,Below.refl _ _⟩
def upv (f:Nat->Value) (i:Nat) (v:Value):Nat->Value:=fun j=>if j=i then v else f j
theorem setCell_at {w:World} {g:Nat} {cs:Array Value} {e:TypeId} {fr:Nat × Nat} (h:w.heap[g]?=some (.cells cs e fr)) (i:Nat) (v:Value):(w.setCell ⟨g,i,none⟩ v).heap[g]?=some (.cells (cs.setIfInBounds i v) e fr):=by
 simp [World.setCell,Array.getElem?_modify,h]
structure ParB (w:World) (pb:Nat) (L:Value) (cv:Nat->Value) (bad:Bool):Prop where
 block:∃ cs,w.heap[pb]?=some (.cells cs 129 (0,0))/\cs.size=10/\cs[0]?=some L/\(∀ i,i < 8->cs[1+i]?=some (cv i))/\cs[9]?=some (.bool bad)
section
variable {w w':World} {pb:Nat} {L:Value} {cv:Nat->Value} {bad:Bool}
theorem ParB.lt (h:ParB w pb L cv bad):pb < w.heap.size:=by obtain ⟨cs,h1,_⟩:=h.block;exact lt_of_block h1
theorem ParB.list (h:ParB w pb L cv bad):w.cell? ⟨pb,0,none⟩=some L:=by obtain ⟨cs,h1,_,h2,_⟩:=h.block;rw [cell_of_cells h1];exact h2
theorem ParB.badc (h:ParB w pb L cv bad):w.cell? ⟨pb,9,none⟩=some (.bool bad):=by obtain ⟨cs,h1,_,_,_,h2⟩:=h.block;rw [cell_of_cells h1];exact h2
theorem ParB.cell (h:ParB w pb L cv bad) (i:Nat) (hi:i < 8):w.cell? ⟨pb,1+i,none⟩=some (cv i):=by obtain ⟨cs,h1,_,_,h2,_⟩:=h.block;rw [cell_of_cells h1];exact h2 i hi
theorem ParB.free (h:ParB w pb L cv bad) (i:Nat):w.frozen? ⟨pb,i,none⟩=false:=by obtain ⟨cs,h1,_⟩:=h.block;exact frozen_of_cells h1 i
theorem ParB.keep {S:Nat->Prop} (h:ParB w pb L cv bad) (hk:Keeps S w w') (hS:¬ S pb):ParB w' pb L cv bad:=by
 obtain ⟨cs,h1,h2⟩:=h.block;exact⟨cs,by rw [hk.block _ (lt_of_block h1) hS];exact h1,h2⟩
theorem ParB.below (h:ParB w pb L cv bad) (hb:Below w.heap.size w w'):ParB w' pb L cv bad:=h.keep (Keeps.of_below hb (fun _=>False)) id
theorem ParB.setBad (h:ParB w pb L cv bad) (b:Bool):ParB (w.setCell ⟨pb,9,none⟩ (.bool b)) pb L cv b:=by
 obtain ⟨cs,h1,h2,h3,h4,h5⟩:=h.block;refine⟨_,setCell_at h1 9 _,by simpa using h2,?_,?_,?_⟩
 ·rw [Array.getElem?_setIfInBounds,if_neg (by decide)];exact h3
 ·intro i hi;rw [Array.getElem?_setIfInBounds,if_neg (by omega)];exact h4 i hi
 ·rw [Array.getElem?_setIfInBounds,if_pos rfl,if_pos (by omega)]
theorem ParB.setCmd (h:ParB w pb L cv bad) (i:Nat) (hi:i < 8) (v:Value):ParB (w.setCell ⟨pb,1+i,none⟩ v) pb L (upv cv i v) bad:=by
 obtain ⟨cs,h1,h2,h3,h4,h5⟩:=h.block;refine⟨_,setCell_at h1 (1+i) _,by simpa using h2,?_,?_,?_⟩
 ·rw [Array.getElem?_setIfInBounds,if_neg (by omega)];exact h3
 ·intro j hj;rw [Array.getElem?_setIfInBounds];unfold upv
  by_cases e:j=i
  ·subst e;rw [if_pos rfl,if_pos (by omega),if_pos rfl]
  ·rw [if_neg (by omega),if_neg e];exact h4 j hj
 ·rw [Array.getElem?_setIfInBounds,if_neg (by omega)];exact h5
end
def set3 (w:World) (b:Nat) (v0 v1 v2:Value):World:=((w.setCell ⟨b,0,none⟩ v0).setCell ⟨b,1,none⟩ v1).setCell ⟨b,2,none⟩ v2
theorem three_set {w:World} {b:Nat} {a0 a1 a2:Value} {t:TypeId} (h:w.heap[b]?=some (.cells #[a0,a1,a2] t (0,0))) (v0 v1 v2:Value):(set3 w b v0 v1 v2).heap[b]?=some (.cells #[v0,v1,v2] t (0,0)):=by
 simp [set3,World.setCell,Array.getElem?_modify,h]
theorem three_cells {w:World} {b:Nat} {a0 a1 a2:Value} {t:TypeId} (h:w.heap[b]?=some (.cells #[a0,a1,a2] t (0,0))):w.cell? ⟨b,0,none⟩=some a0/\w.cell? ⟨b,1,none⟩=some a1/\w.cell? ⟨b,2,none⟩=some a2/\∀ j,w.frozen? ⟨b,j,none⟩=false :=
 ⟨by rw [cell_of_cells h];rfl,by rw [cell_of_cells h];rfl,by rw [cell_of_cells h];rfl,fun j=>frozen_of_cells h j⟩
theorem set3_keeps {S:Nat->Prop} {w0 w:World} {b:Nat} (h:Keeps S w0 w) (hb:S b\/w0.heap.size<=b) (v0 v1 v2:Value):Keeps S w0 (set3 w b v0 v1 v2):=((h.setCell (p:=⟨b,0,none⟩) hb v0).setCell (p:=⟨b,1,none⟩) hb v1).setCell (p:=⟨b,2,none⟩) hb v2
theorem blk_new (w:World) (o:Obj):(w.alloc o).heap[w.heap.size]?=some o:=Array.getElem?_push_size
def Flat {α:Type} (R:World->List Value->α->Prop):Prop:=∀ w w' vs x,R w vs x->R w' vs x
theorem strR_flat:Flat StrR:=fun _ _ _ _ h=>h
theorem pairR_flat:Flat PairR:=fun _ _ _ _ h=>h
def NewLies {α:Type} (n:Nat) (R:World->List Value->α->Prop) (B:Nat) (w:World) (A:Option Addr) (xs:List α):Prop :=
 xs=[]\/∃ b o,A=some ⟨b,o,none⟩/\B<=b/\b < w.heap.size/\RowAt n R w b o xs
theorem NewLies.lies {α:Type} {n:Nat} {R:World->List Value->α->Prop} {B:Nat} {w:World} {A:Option Addr} {xs:List α} (h:NewLies n R B w A xs):Lies n R w A xs :=
 h.imp_right fun⟨b,o,h1,_,h2,h3⟩=>⟨b,o,h1,h2,h3⟩
theorem NewLies.keep {α:Type} {n:Nat} {R:World->List Value->α->Prop} {B:Nat} {w w':World} {A:Option Addr} {xs:List α} {S:Nat->Prop} (h:NewLies n R B w A xs) (hR:Flat R) (hk:Keeps S w w') (hS:∀ b,S b->b < B):NewLies n R B w' A xs:=by
 rcases h with h | ⟨b,o,hA,hB,hlt,hr⟩
 ·exact .inl h
 ·refine .inr ⟨b,o,hA,hB,Nat.lt_of_lt_of_le hlt hk.size,fun i x hx=>?_⟩;obtain ⟨vs,h1,h2,h3⟩:=hr i x hx;exact⟨vs,h1,fun j u hu=>(hk.cell hlt (fun hs=>by have:=hS b hs;omega)).trans (h2 j u hu),hR _ _ _ _ h3⟩
end Cm
namespace Cm
open Go.RowKit Dt
def KeepP (pb:Nat) (w w':World):Prop:=Keeps (fun k=>k=pb) w w'
def agS (x:Sexp) (A:Option Addr) (c:Nat):Value:=.agg #[.int .i8 x.kind,.string x.text,.slice A x.l.length c]
def noSexp:Sexp:=.mk 0 noS []
def partS (xs:List Sexp) (k:Nat):Sexp:=(xs[k]?).getD noSexp
def ptrP (pb:Nat):Value:=.pointer (some ⟨pb,0,none⟩)
theorem is_any {w:World} {pb:Nat} {L:Value} {cv:Nat->Value} {b:Bool} (h:ParB w pb L cv b) (ok:Bool) :
  Calls Tryz.prog 114 #[ptrP pb,.bool ok] w fun e w'=>e=.returned (.tuple #[])/\ParB w' pb L cv (b || !ok)/\KeepP pb w w':=by
 have c9:=h.badc;have f9:=h.free 9;have H:=kp h;clear h;unfold ptrP
 cases b <;> cases ok
 all_goals
  go_enter Tryz.func114,Tryz.ntmps114
  go_wp2
  go_end0
  exact⟨rfl,H.out.setBad _,(Keeps.refl (fun k=>k=pb) _).setCell (.inl rfl) _⟩
theorem noSexp_r (w:World):SexpR w [.int .i8 noSexp.kind,.string noSexp.text,.slice none noSexp.l.length 0] noSexp :=
 SexpR.make (.inl rfl) (Nat.zero_le _) (by decide) (by decide) (by decide) (by decide)
def PartPost (W0 w:World) (pb:Nat) (L:Value) (cv:Nat->Value) (b:Bool) (x:Sexp) (e:Ending) (w':World):Prop :=
 ∃ A' c',(e=.returned (agS x A' c')/\SexpR W0 [.int .i8 x.kind,.string x.text,.slice A' x.l.length c'] x)/\ParB w' pb L cv b/\KeepP pb w w'
theorem part_ret {w:World} {b:Nat} {r0 r1 r2:Value} {act:Act} {t:TypeId} {R:Ending->World->Prop} (hb:w.heap[b]?=some (.cells #[r0,r1,r2] t (0,0))) (h4:act.tmps[4]?=some (.pointer (some ⟨b,0,none⟩))) (hd:act.defers=[]) (hR:R (.returned (.agg #[r0,r1,r2])) w) :
  bodyPost Tryz.prog Tryz.f113 R .ret act w:=by
 obtain ⟨y0,y1,y2,_⟩:=three_cells hb;refine bodyPost_ret (v:=.agg #[r0,r1,r2]) ?_ hd hR;simp [results,Tryz.results113,go_sem,y0,y1,y2,h4]
theorem part_any {W0 w:World} {pb:Nat} {A:Option Addr} {c:Nat} {cv:Nat->Value} {b:Bool} {xs:List Sexp} (h:ParB w pb (.slice A xs.length c) cv b) (hx:Lies 3 SexpR W0 A xs) (hb:Below W0.heap.size W0 w) (k:Nat) :
  Calls Tryz.prog 113 #[ptrP pb,.int .i64 k] w (PartPost W0 w pb (.slice A xs.length c) cv (b || decide (xs.length<=k)) (partS xs k)):=by
 have HA:=kp (h.below ((Below.refl _ _).alloc nlq (.cells #[.int .i8 0,.string { data:=#[] },.slice none 0 0] 81)));have HN:=kp (blk_new w (.cells #[.int .i8 0,.string { data:=#[] },.slice none 0 0] 81));have HK:=kp (show KeepP pb w (w.alloc (.cells #[.int .i8 0,.string { data:=#[] },.slice none 0 0] 81)) from(Keeps.refl _ _).alloc _);have HW:=kp (hb.alloc hb.size (.cells #[.int .i8 0,.string { data:=#[] },.slice none 0 0] 81));have hlt:=h.lt;have hbs:=hb.size;clear h hb;unfold ptrP
 cases hk':xs[k]? with
 | none =>
  have hl:xs.length<=k:=List.getElem?_eq_none_iff.1 hk';have hl':((xs.length:Int)<=(k:Int)):=by omega
  have e:partS xs k=noSexp:=by unfold partS;rw [hk'];rfl
  rw [e,decide_eq_true hl,Bool.or_true];have hne:w.heap.size≠pb:=by omega
  clear hx hk' e
  go_enter Tryz.func113,Tryz.ntmps113
  go_upto_region 1 with fail
  generalize w.alloc (.cells #[.int .i8 0,.string { data:=#[] },.slice none 0 0] 81)=w1 at *;have c0:=HA.out.list;have f9:=HA.out.free 9;have c9:=HA.out.badc;obtain ⟨y0,y1,y2,yf⟩:=three_cells HN.out;go_wp2_with fail
  have hP:=HA.out.setBad true;exact part_ret (w:=set3 (w1.setCell ⟨pb,9,none⟩ (.bool true)) w.heap.size (.int .i8 0) (.string { data:=#[] }) (.slice none 0 0)) (three_set ((Below.heap_setCell _ _ _ _ hne).trans HN.out) _ _ _) rfl rfl ⟨none,0,⟨rfl,noSexp_r W0⟩,hP.keep (set3_keeps (S:=fun k=>k=w.heap.size) (Keeps.refl _ _) (.inl rfl) _ _ _) (Ne.symm hne),set3_keeps (HK.out.setCell (.inl rfl) _) (.inr nlq) _ _ _⟩
 | some y =>
  have hl:k < xs.length:=(gqs hk').1;have hl':¬ ((xs.length:Int)<=(k:Int)):=by omega
  have hl2:((k:Int) < (xs.length:Int)):=by omega
  have e:partS xs k=y:=by unfold partS;rw [hk'];rfl
  rw [e,dfq (by omega:¬ xs.length<=k),Bool.or_false];obtain ⟨bb,o,A',c',rfl,hbl,e0,e1,e2,hr⟩:=sexp_cells hx hk';have HR:=kp hr;have HC:=kp (show ∀ j u,W0.cell? ⟨bb,o+k * 3+j,none⟩=some u->(w.alloc (.cells #[.int .i8 0,.string { data:=#[] },.slice none 0 0] 81)).cell? ⟨bb,o+k * 3+j,none⟩=some u from fun j u hu=>(HW.out.cell (p:=⟨bb,o+k * 3+j,none⟩) hbl).trans hu);have hne:w.heap.size≠pb:=by omega
  clear hx hk' e hr
  go_enter Tryz.func113,Tryz.ntmps113
  go_upto_region 1 with fail
  generalize w.alloc (.cells #[.int .i8 0,.string { data:=#[] },.slice none 0 0] 81)=w1 at *;have c0:=HA.out.list;obtain ⟨y0,y1,y2,yf⟩:=three_cells HN.out;have d0:=HC.out 0 _ e0;have d1:=HC.out 1 _ e1;have d2:=HC.out 2 _ e2;rw [Nat.add_zero] at d0;clear e0 e1 e2;go_wp2_with fail
  exact part_ret (w:=set3 w1 w.heap.size (.int .i8 y.kind) (.string y.text) (.slice A' y.l.length c')) (three_set HN.out _ _ _) rfl rfl ⟨A',c',⟨rfl,HR.out⟩,HA.out.keep (set3_keeps (S:=fun k=>k=w.heap.size) (Keeps.refl _ _) (.inl rfl) _ _ _) (Ne.symm hne),set3_keeps HK.out (.inr nlq) _ _ _⟩
theorem symbol_any {w:World} {pb:Nat} {L:Value} {cv:Nat->Value} {b:Bool} (h:ParB w pb L cv b) (x:Sexp) (A:Option Addr) (c:Nat) :
  Calls Tryz.prog 112 #[ptrP pb,agS x A c] w fun e w'=>e=.returned (.string x.text)/\ParB w' pb L cv (b || !decide (x.kind=0))/\KeepP pb w w':=by
 have HI:=kp (fun W (hW:Below w.heap.size w W)=>is_any (h.below hW) (decide (x.kind=0)));unfold ptrP agS at *;have hk2:(x.kind == 0)=decide (x.kind=0):=rfl;have HL:=kp h.lt;generalize x.kind=k at *;generalize x.text=t at *;generalize x.l.length=n at *;clear h;generalize decide (k=0)=kb at *
 cases kb
 all_goals
  go_enter Tryz.func112,Tryz.ntmps112
  go_wp2_with fail
  refine(HI.out _ ((Below.refl _ _).alloc nlq _)).mono ?_;rintro e w1 ⟨rfl,h1,h2⟩;have HC:=kp (show w1.cell? ⟨w.heap.size,1,none⟩=some (.string t) from(h2.cell (by simp) (by have:=HL.out;show ¬ w.heap.size=pb;omega)).trans (box_cells w _ _ _ _).2.1);have H1:=kp h1;have H2:=kp (((Keeps.refl (fun k=>k=pb) w).alloc _).trans_same h2);clear h1 h2;have hc:=HC.out;go_wp2_with fail
  go_ret;exact⟨rfl,H1.out,H2.out⟩
end Cm
namespace Dt
open Go.RowKit
structure PtrAt (w:World) (b:Nat) (A:Option Addr) (c:Nat) (x:Sexp):Prop where
 c0:w.cell? ⟨b,0,none⟩=some (.int .i8 x.kind)
 c1:w.cell? ⟨b,1,none⟩=some (.string x.text)
 c2:w.cell? ⟨b,2,none⟩=some (.slice A x.l.length c)
 lt:b < w.heap.size
 rep:SexpR w [.int .i8 x.kind,.string x.text,.slice A x.l.length c] x
theorem PtrAt.on {w w':World} {b:Nat} {A:Option Addr} {c:Nat} {x:Sexp} (h:PtrAt w b A c x) (hb:Below w.heap.size w w'):PtrAt w' b A c x :=
 ⟨((bcell hb).1 b 0 h.lt).trans h.c0,((bcell hb).1 b 1 h.lt).trans h.c1,((bcell hb).1 b 2 h.lt).trans h.c2,Nat.lt_of_lt_of_le h.lt hb.size,SexpR.lasts _ _ _ _ hb h.rep⟩
theorem PtrAt.text {w:World} {b:Nat} {A:Option Addr} {c:Nat} {x:Sexp} (h:PtrAt w b A c x):(x.text.size:Int)<=140737488351232:=by
 obtain ⟨_,_,_,_,_,_,h1,_⟩:=h.rep.open';exact h1
theorem PtrAt.len {w:World} {b:Nat} {A:Option Addr} {c:Nat} {x:Sexp} (h:PtrAt w b A c x):x.l.length * 48<=140737488351232:=by
 obtain ⟨_,_,_,_,_,_,_,h1,_⟩:=h.rep.open';exact h1
theorem symbol_any {w:World} {b:Nat} {A:Option Addr} {c:Nat} {x:Sexp} (h:PtrAt w b A c x) :
  Calls Tryz.prog 165 #[.pointer (some ⟨b,0,none⟩)] w fun e w'=>e=.returned (.bool (x.l.isEmpty && Lx.mayB (Lx.bs x.text)))/\w=w':=by
 have HM:=kp (Lx.may_any x.text w (by have:=h.text;omega));have c1:=h.c1;have c2:=h.c2;have hl:=h.len;generalize Lx.mayB (Lx.bs x.text)=m at *;generalize x.text=t at *;generalize x.l=l at *;clear h
 cases l with
 | nil =>
  simp only [List.length_nil] at c2
  go_enter Tryz.func165,Tryz.ntmps165
  go_wp2_with fail
  refine(HM.out).mono ?_;rintro e w' ⟨rfl,rfl⟩;go_wp2_with fail
  go_ret;exact⟨rfl,rfl⟩
 | cons y r =>
  have hn:(((y :: r).length:Int) == 0)=false:=by rw [beq_eq_false_iff_ne,List.length_cons];omega
  generalize (y :: r).length=n at *
  go_enter Tryz.func165,Tryz.ntmps165
  go_wp2_with fail
  go_ret;exact⟨rfl,rfl⟩
theorem numB_iff (l:List UInt8):numB l=(decide (parseE l≠20) && decide (l.length<=100)):=by
 unfold numB parseE
 cases isNum l <;> simp
 split <;> simp
theorem numeral_any {w:World} {b:Nat} {A:Option Addr} {c:Nat} {x:Sexp} (h:PtrAt w b A c x) :
  Calls Tryz.prog 166 #[.pointer (some ⟨b,0,none⟩)] w fun e w'=>e=.returned (.bool (x.l.isEmpty && numB (Lx.bs x.text)))/\Below w.heap.size w w':=by
 have HM:=kp (parse_any x.text (by have:=h.text;omega) w);have HP:=kp (fun W (hW:Below w.heap.size w W)=>show W.cell? ⟨b,1,none⟩=some (.string x.text)/\W.cell? ⟨b,2,none⟩=some (.slice A x.l.length c) from⟨(h.on hW).c1,(h.on hW).c2⟩);have HN:=kp (show numB (Lx.bs x.text)=(decide (parseE x.text.data.toList≠20) && decide (x.text.size<=100)) by rw [← Lx.bs_length x.text];exact numB_iff _);have c1:=h.c1;have hl:=h.len;have ht:=h.text;generalize parseE x.text.data.toList=pe at *;generalize parseV x.text.data.toList=pv at *;generalize numB (Lx.bs x.text)=nb at *;generalize x.text=t at *;generalize x.l=l at *;clear h
 go_enter Tryz.func166,Tryz.ntmps166
 go_wp2_with fail
 refine HM.out.mono ?_;rintro e w1 ⟨rfl,hb⟩;have HB1:=kp hb;obtain ⟨d1,d2⟩:=HP.out w1 hb;clear hb
 cases l with
 | nil =>
  simp only [List.length_nil] at d2
  by_cases h1:pe=20
  ·subst h1;go_wp2_with fail
   go_ret;exact⟨ret_bool (by rw [HN.out];simp),HB1.out⟩
  ·have h1':(pe == 20)=false:=beq_eq_false_iff_ne.2 h1;have h1'':(pe != 20)=true:=by rw [bne,h1'];rfl
   by_cases h2:t.size<=100
   ·have h2':(t.size:Int)<=100:=by omega
    go_wp2_with fail
    go_ret;exact⟨ret_bool (by rw [HN.out];simp [h1,h2]),HB1.out⟩
   ·have h2':decide ((t.size:Int)<=100)=false:=dfq (by omega);go_wp2_with fail
    go_ret;exact⟨ret_bool (by rw [HN.out];simp [h2]),HB1.out⟩
 | cons y r =>
  have hn:(((y :: r).length:Int) == 0)=false:=by rw [beq_eq_false_iff_ne,List.length_cons];omega
  generalize (y :: r).length=n at *;go_wp2_with fail
  go_ret;exact⟨rfl,HB1.out⟩
def IdxPost (b:Bool) (e:Ending):Prop:=∃ r:Int,e=.returned (.int .i64 r)/\decide (0<=r)=b
def byteV (c:UInt8):Value:=.int .u8 c.toNat
def noSign (c:UInt8):Bool:=!Lx.signI c.toNat
theorem keyword1_any (c:UInt8) (w:World) :
  Calls Tryz.prog 227 #[byteV c] w fun e w'=>e=.returned (.bool (noSign c))/\w=w':=by
 have HS:=kp (Lx.sign_any (c.toNat:Int) w (by omega) (by have:=c.toNat_lt;omega));unfold byteV noSign;generalize Lx.signI (c.toNat:Int)=b at *
 go_enter Tryz.func227,Tryz.ntmps227
 go_wp2_with fail
 refine(HS.out).mono ?_;rintro e w' ⟨rfl,rfl⟩;go_wp2_with fail
 go_ret;exact⟨rfl,rfl⟩
theorem idx_bytes (xs:List UInt8) (w:World) (A:Option Addr) (c:Nat) (hc:Cells w A (xs.map byteV)) (hl:(xs.length:Int)<=9223372036854775807) :
  Calls Tryz.prog 305 #[.slice A xs.length c,.func (Fn.func 227) #[] #[]] w fun e w'=>IdxPost (xs.any noSign) e/\w=w':=by
 go_enter Tryz.func305,Tryz.ntmps305
 go_wp2_with fail
 go_loop [8] (fun v=>∃ k:Nat,k<=xs.length/\v=.int .i64 k/\(xs.take k).any noSign=false) (fun v=>xs.length - (intOf v).toNat)
 case atStart=>exact⟨0,Nat.zero_le _,rfl,rfl⟩
 case round =>
  obtain ⟨k,hk,rfl,hn⟩:=hrel;have HN:=kp hn;clear hn
  by_cases hlt:k < xs.length
  ·have hlt2:(k:Int) < (xs.length:Int):=by omega
   have hx:=gqe hlt;generalize xs[k]=x at hx;rcases hc with h0 | ⟨b,o,rfl,hbl,hcell⟩
   ·simp at h0;rw [h0] at hlt;simp at hlt
   ·have c0:=hcell k (byteV x) (by simp [hx]);have HC:=kp (keyword1_any x w);have HX:=kp hx;clear hcell hx
    cases hq:noSign x with
    | true =>
     have HQ:=kp (show xs.any noSign=true from List.any_eq_true.2 ⟨x,mgq HX.out,hq⟩);rw [hq] at HC;clear hq;go_wp2_with fail
     refine HC.out.mono ?_;rintro e w' ⟨rfl,rfl⟩;go_wp2_with fail
     go_ret;exact⟨⟨k,rfl,by rw [HQ.out];exact decide_eq_true (by omega)⟩,rfl⟩
    | false =>
     have HQ:=kp (show(xs.take (k+1)).any noSign=false by rw [List.take_add_one,HX.out,List.any_append,HN.out];simpa using hq);rw [hq] at HC;clear hq;go_wp2_with fail
     refine HC.out.mono ?_;rintro e w' ⟨rfl,rfl⟩;go_wp2_with fail
     go_round
     case rel=>exact⟨k+1,by omega,by go_num,HQ.out⟩
     case measure=>simp [intOf];omega
  ·obtain rfl:k=xs.length:=by omega
   have HQ:=kp (show xs.any noSign=false by have h:=HN.out;rwa [List.take_length] at h);go_wp2_with fail
   go_ret;exact⟨⟨-1,rfl,by rw [HQ.out];exact dfq (by omega)⟩,rfl⟩
theorem contains_bytes (xs:List UInt8) (w:World) (A:Option Addr) (c:Nat) (hc:Cells w A (xs.map byteV)) (hl:(xs.length:Int)<=9223372036854775807) :
  Calls Tryz.prog 226 #[.slice A xs.length c,.func (Fn.func 227) #[] #[]] w fun e w'=>e=.returned (.bool (xs.any noSign))/\w=w':=by
 have HI:=kp (idx_bytes xs w A c hc hl);generalize xs.any noSign=b at *;clear hc
 go_enter Tryz.func226,Tryz.ntmps226
 go_wp2_with fail
 refine HI.out.mono ?_;rintro e w' ⟨⟨r,rfl,hr⟩,rfl⟩;have HR:=kp hr;clear hr;go_wp2_with fail
 go_ret;exact⟨ret_bool HR.out,rfl⟩
def SameAt (y:Sexp):Prop:=∀ (W:World) (A:Option Addr) (c:Nat) (z:Sexp) (B:Option Addr) (d:Nat),SexpR W [.int .i8 y.kind,.string y.text,.slice A y.l.length c] y->SexpR W [.int .i8 z.kind,.string z.text,.slice B z.l.length d] z ->
 Calls Tryz.prog 184 #[.agg #[.int .i8 y.kind,.string y.text,.slice A y.l.length c],.agg #[.int .i8 z.kind,.string z.text,.slice B z.l.length d]] W fun e w'=>e=.returned (.bool (eqB y z))/\Below W.heap.size W w'
theorem eqSexps_any (xs ys:List Sexp) (hs:∀ y ∈ xs,SameAt y) (w:World) (A B:Option Addr) (c d:Nat) (hx:Lies 3 SexpR w A xs) (hy:Lies 3 SexpR w B ys) (_:(xs.length:Int)<=140737488351232) (_:(ys.length:Int)<=140737488351232) :
  Calls Tryz.prog 183 #[.slice A xs.length c,.slice B ys.length d,.func (.func 184) #[] #[]] w fun e w'=>e=.returned (.bool (eqB xs ys))/\Below w.heap.size w w':=by
 by_cases hq:xs.length=ys.length
 ·have hq2:((xs.length:Int) != (ys.length:Int))=false:=by simp;omega
  have HE:=kp (eqB_full hq);have HX:=kp hx;have HYs:=kp hy;have HSm:=kp hs;have hle:ys.length<=xs.length:=by omega
  have hle':xs.length<=ys.length:=by omega
  clear hq hx hy hs
  go_enter Tryz.func183,Tryz.ntmps183
  go_wp2_with fail
  go_loopw [17] (fun v wr=>∃ k:Nat,k<=xs.length/\v=.int .i64 k/\xs.take k=ys.take k/\Below w.heap.size w wr) (fun v _=>xs.length - (intOf v).toNat)
  case atStart=>exact⟨0,Nat.zero_le _,rfl,by simp,Below.refl _ _⟩
  case round =>
   obtain ⟨k,hk,rfl,ht,hb⟩:=hrel;have HT:=kp ht;have HB:=kp hb;clear ht
   by_cases hlt:k < xs.length
   ·have hlt2:(k:Int) < (xs.length:Int):=by omega
    have hltm:(k:Int) < (ys.length:Int):=by omega
    have hyk:=gqe hlt;have hym:=List.getElem_mem hlt;have hzk:=gqe (show k < ys.length by omega);generalize xs[k]=y at hyk hym;generalize ys[k]'_=z at hzk;obtain ⟨b,o,A',c',rfl,hbl,e0,e1,e2,hr⟩:=sexp_cells (HX.out.on SexpR.lasts hb) hyk;obtain ⟨b',o',B',d',rfl,hbl',g0,g1,g2,hr'⟩:=sexp_cells (HYs.out.on SexpR.lasts hb) hzk;have HY:=kp (fun W (hW:Below wr.heap.size wr W)=>HSm.out y hym W A' c' z B' d' (SexpR.lasts _ _ _ _ hW hr) (SexpR.lasts _ _ _ _ hW hr'));have HS:=kp (eqB_next hyk hzk);have hsz:=hb.size;have W1:=kp ((brq wr).alloc nlq (.cells #[.int .i8 y.kind,.string y.text,.slice A' y.l.length c'] 81));obtain ⟨q0,q1,q2,_⟩:=box_cells wr (.int .i8 y.kind) (.string y.text) (.slice A' y.l.length c') 81;have z0:=(W1.out.cell (p:=⟨b',o'+k * 3,none⟩) hbl').trans g0;have z1:=(W1.out.cell (p:=⟨b',o'+k * 3+1,none⟩) hbl').trans g1;have z2:=(W1.out.cell (p:=⟨b',o'+k * 3+2,none⟩) hbl').trans g2;clear hb hr hr' hyk hzk hym;go_wp2_with fail
    refine(HY.out _ (((Below.refl _ _).alloc nlq _).alloc (by simp) _)).mono ?_;rintro e w2 ⟨rfl,hb2⟩;have HB2:=kp (((HB.out.alloc HB.out.size _).alloc (by simp;omega) _).trans (hb2.mono (by simp;omega)));clear hb2
    by_cases he:y=z
    ·have HN:=kp (HS.out.1 he HT.out);rw [eqB_true.2 he];go_wp2_with fail
     go_roundw
     case rel=>exact⟨k+1,by omega,by go_num,HN.out,HB2.out⟩
     case measure=>simp [intOf];omega
    ·have HN:=kp (HS.out.2 he);rw [eqB_false.2 he];go_wp2_with fail
     go_ret;exact⟨ret_bool HN.out.symm,HB2.out⟩
   ·obtain rfl:k=xs.length:=by omega
    have HN:=kp (HE.out HT.out);clear hb;go_wp2_with fail
    go_ret;exact⟨ret_bool HN.out.symm,HB.out⟩
 ·have hq2:((xs.length:Int) != (ys.length:Int))=true:=by simp;omega
  have HN:=kp (eqB_len hq);clear hq hx hy hs
  go_enter Tryz.func183,Tryz.ntmps183
  go_wp2_with fail
  go_ret;exact⟨ret_bool HN.out.symm,Below.refl _ _⟩
theorem same_any:∀ (n:Nat) (y:Sexp),SizeOf.sizeOf y < n->SameAt y:=by
 intro n
 induction n with
 | zero=>intro x hx;omega
 | succ n ih =>
  intro y hy W A c z B d hr hr';have HM:=fun x (hx:x ∈ y.l)=>ih x (by have:=Sexp.mem_lt hx;omega);obtain ⟨A0,c0,e0,hl,_,_,_,hlb,_⟩:=hr.open';simp only [List.cons.injEq,Value.slice.injEq,and_true,true_and] at e0;obtain ⟨rfl,rfl⟩:=e0;obtain ⟨B0,d0,e0,hl',_,_,_,hlb',_⟩:=hr'.open';simp only [List.cons.injEq,Value.slice.injEq,and_true,true_and] at e0;obtain ⟨rfl,rfl⟩:=e0;have HF:=kp (fun W' (hW:Below W.heap.size W W')=>eqSexps_any y.l z.l HM W' A B c d (hl.on SexpR.lasts hW) (hl'.on SexpR.lasts hW) (by omega) (by omega));have HE:=kp (eqB_sexp y z);have HB:=kp (((brq W).alloc nlq (.cells #[.int .i8 y.kind,.string y.text,.slice A y.l.length c] 81)).alloc (by simp) (.cells #[.int .i8 z.kind,.string z.text,.slice B z.l.length d] 81));generalize eqB y z=r at *;generalize eqB y.l z.l=rl at *;generalize y.l.length=ln at *;generalize z.l.length=lm at *;generalize y.kind=yk at *;generalize z.kind=zk at *;generalize y.text=yt at *;generalize z.text=zt at *;clear hr hr' hl hl' HM ih hy
  by_cases h1:yk=zk
  ·have h1':(yk == zk)=true:=by simp [h1]
   by_cases h2:yt=zt
   ·have h2':(yt.toList == zt.toList)=true:=by simp [h2]
    have HR:r=rl:=by rw [HE.out,eqB_true.2 h1,eqB_true.2 h2];simp
    subst HR;clear HE;subst h1;subst h2
    go_enter Tryz.func184,Tryz.ntmps184
    go_wp2_with fail
    refine(HF.out _ HB.out).mono ?_;rintro e w2 ⟨rfl,hb2⟩;have HB2:=kp (HB.out.trans (hb2.mono HB.out.size));clear hb2;go_wp2_with fail
    go_ret;exact⟨rfl,HB2.out⟩
   ·have h2':(yt.toList == zt.toList)=false:=by
     rw [beq_eq_false_iff_ne];intro e;rw [Lx.bs_toList,Lx.bs_toList] at e;exact h2 (ByteArray.ext (Array.toList_inj.1 e))
    have HR:r=false:=by rw [HE.out,eqB_false.2 h2];simp
    subst HR;clear HE;subst h1
    go_enter Tryz.func184,Tryz.ntmps184
    go_wp2_with fail
    go_ret;exact⟨rfl,HB.out⟩
  ·have h1':(yk == zk)=false:=beq_eq_false_iff_ne.2 h1;have HR:r=false:=by rw [HE.out,eqB_false.2 h1];simp
   subst HR
   go_enter Tryz.func184,Tryz.ntmps184
   go_wp2_with fail
   go_ret;exact⟨rfl,HB.out⟩
end Dt
end Go.Proofs.YtmcbolkpbklfeaaGreatDoor
